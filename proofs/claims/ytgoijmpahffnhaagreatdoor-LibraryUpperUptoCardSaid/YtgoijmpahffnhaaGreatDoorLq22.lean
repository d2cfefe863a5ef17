/-  -/
import Derived.Test.YtgoijmpahffnhaaGreatDoorLr7
import Derived.Test.YtgoijmpahffnhaaGreatDoorLq15
import Derived.Test.YtgoijmpahffnhaaGreatDoorLq21
import Derived.BigQuiet
import Derived.Test.YtgoijmpahffnhaaGreatDoorLrI
import Derived.Test.YtgoijmpahffnhaaGreatDoorLrS
import Derived.Maps.RangeRun
import Derived.BigRegion
import Derived.Deep.OwnRows
import Derived.Carry
import Derived.Test.YtgoijmpahffnhaaGreatDoorPg3
import Derived.Test.YtgoijmpahffnhaaGreatDoorLq5
namespace Go.Proofs.YtgoijmpahffnhaaGreatDoor
set_option linter.all false
open Go.RowKit
set_option maxRecDepth 100000
set_option maxHeartbeats 4000000
theorem eval_any (F:dF) (nb:aj→Bool) (kb:Int→Bool) (BH:zY F nb kb) (h4:kb 4=false) (Sx:Nat→Prop) (hsx:∀b,Sx b→b<F.N) :
  ∀(m:Nat) (x:aB) (b o:Nat) (ov:Value) (S:aU) (w:World),sizeT x≤m→aZ F ov S w→bH S→aX w Sx b o x→sH nb kb x=true→
   Calls Tryz.prog 67 #[.pointer (some ⟨F.R,0,none⟩),.pointer (some ⟨b,o,none⟩)] w (EvQ F ov w (fK x S)):=by
 intro m
 induction m with
 | zero=>intro x b o ov S w hm;cases x;simp [sizeT] at hm
 | succ m ih =>
  rintro ⟨k,t,n,nm,kids⟩ b o ov S w hm h ok hx hk
  by_cases k1:k=1
  ·subst k1;exact aeu F ov S Sx t n nm kids b o w h hx
  by_cases k2:k=2
  ·subst k2
   rw [sH,if_neg (by decide),if_pos rfl,Bool.and_eq_true] at hk
   exact af7 F nb kb BH ov S Sx t n nm kids b o w h hx hk.1 (of_decide_eq_true hk.2)
  by_cases k3:k=3
  ·subst k3;exact aev F ov S Sx t n nm kids b o w h hsx hx
  have hk0:=hk
  rw [sH,if_neg k1,if_neg k2,if_neg k3,Bool.and_eq_true] at hk
  have h6:6≤k∧k≤13:=by
   have h2:=hk.2
   split at h2
   ·rw [h4] at h2;cases h2
   split at h2
   ·omega
   split at h2
   ·omega
   ·rw [Bool.and_eq_true] at h2;have:=of_decide_eq_true h2.2;omega
  exact aex F nb kb BH ov S Sx k t n nm kids b o w h hsx h6 hk0 ok hx fun j hj b' o' qW S' w' hr hok hp=>ih kids[j] b' o' qW S' w' (by have:=pI kids j hj;simp only [sizeT] at hm;omega) hr hok hp (Gj hk.1 j hj)
theorem uX {w:World} {Sx:Nat→Prop} {b o:Nat} {s:aF} (h:AL w Sx b o s):w.cell? ⟨b,o+1,none⟩=some (.int .i64 s.kind)∧aX w Sx b (o+2) s.target∧aX w Sx b (o+7) s.value∧sizeT s.value≤1048576∧s.target.name.size<1000000000∧
  w.cell? ⟨b,o+21,none⟩=some (.string s.always)∧w.cell? ⟨b,o+22,none⟩=some (.string s.yes)∧w.cell? ⟨b,o+23,none⟩=some (.string s.bW):=by
 obtain ⟨a,hb,hz,hc,ho⟩:=h
 exact ⟨hc 1 (by decide),yO hb hz.target.z (hc 2 (by decide)) (hc 3 (by decide)) (hc 4 (by decide)) (hc 5 (by decide)) (hc 6 (by decide)) ho.target,
  yO hb hz.value.z (hc 7 (by decide)) (hc 8 (by decide)) (hc 9 (by decide)) (hc 10 (by decide)) (hc 11 (by decide)) ho.value,hz.value.t,hz.target.z.2.1,hc 21 (by decide),hc 22 (by decide),hc 23 (by decide)⟩
section
variable (F:dF) (nb:aj→Bool) (kb:Int→Bool) (BH:zY F nb kb) (h4:kb 4=false) (ov:Value) (S:aU) (Sx:Nat→Prop) (s:aF) (b o:Nat) (w:World) (h:aZ F ov S w) (ok:bH S) (hsx:∀b,Sx b→b<F.N) (hx:AL w Sx b o s)
include h hx
theorem aey (hk:s.kind=1):Calls Tryz.prog 38 #[.pointer (some ⟨F.R,0,none⟩),.pointer (some ⟨b,o,none⟩)] w (yg F ov w (lN s S)):=by
 obtain ⟨q0,_⟩:=uX hx
 have fin:Hid (lN s S=(true,S)):=by unfold Hid lN;rw [if_neg (by omega),if_neg (by omega)]
 rw [hk] at q0
 have H:=ah h
 clear h hx hk
 go_enter Tryz.func38, Tryz.ntmps38
 go_wp2_with fail
 go_ret
 exact ⟨by rw [fin.out];rfl,ov,by rw [fin.out];exact bC.refl H.out⟩
include BH h4 hsx ok
theorem aez (hk:s.kind=2) (hoe:sH nb kb s.value=true):Calls Tryz.prog 38 #[.pointer (some ⟨F.R,0,none⟩),.pointer (some ⟨b,o,none⟩)] w (yg F ov w (lN s S)):=by
 obtain ⟨q0,_,hv,hz,_⟩:=uX hx
 have fin:Hid (lN s S=((fK s.value S).1.isSome,(fK s.value S).2)):=by unfold Hid lN;rw [if_pos hk]
 have HE:=ah (eval_any F nb kb BH h4 Sx hsx _ s.value b (o+7) ov S w hz h ok hv hoe)
 rw [hk] at q0
 clear h hx hk hv BH h4
 go_enter Tryz.func38, Tryz.ntmps38
 go_wp2_with (go_at_call 67;(with_reducible refine HE.out.mono ?_);rintro e w2 ⟨rfl,mV,r_⟩;have R2:=ah r_;clear r_)
 go_ret
 exact ⟨by rw [fin.out];rfl,mV,by rw [fin.out];exact R2.out⟩
theorem Yk (hk:s.kind=3) (hoe:sH nb kb s.value=true) (ht:s.target.kind=3):Calls Tryz.prog 38 #[.pointer (some ⟨F.R,0,none⟩),.pointer (some ⟨b,o,none⟩)] w (yg F ov w (lN s S)):=by
 obtain ⟨q0,hg,_,hz,hnz,_⟩:=uX hx
 have hsf:Safe Sx aA w.heap.size:=fun b hb=>⟨Nat.lt_of_lt_of_le (hsx b hb) h.pq.low,fun h=>h⟩
 have HP:=ah (Hu F ov S Sx s.target b (o+2) w h hg hsf ht)
 have hpf:lM s.target S=(some ⟨s.target.name,⟨#[]⟩,false⟩,S):=if_pos ht
 have TY:=ah hpf
 have HEV:Hid (∀eu wx,aZ F eu S wx→Kept (RX F ov) w wx→Calls Tryz.prog 67 #[.pointer (some ⟨F.R,0,none⟩),.pointer (some ⟨b,o+7,none⟩)] wx (EvQ F eu wx (fK s.value S))):=fun eu wx hr hk=>by
  have:=hx.to hk (fun b hb=>⟨(hsf b hb).1,fun hc=>by have:=(h.xlt hc).1;have:=hsx b hb;omega⟩) (fun _ h=>h)
  obtain ⟨_,_,hv,_⟩:=uX this
  exact eval_any F nb kb BH h4 Sx hsx _ s.value b (o+7) eu S wx hz hr ok hv hoe
 have hev:=ah (Hl (nb:=nb) (kb:=kb) s.value S hoe ok)
 have hxk:Hid (∀wx,Kept (RX F ov) w wx→wx.cell? ⟨b,o+1,none⟩=some (.int .i64 3)):=fun wx hk2=>by
  have:=hx.to hk2 (fun b hb=>⟨(hsf b hb).1,fun hc=>by have:=(h.xlt hc).1;have:=hsx b hb;omega⟩) (fun _ h=>h)
  rw [(uX this).1,hk]
 obtain ⟨tn,htn⟩:∃tn,tn=s.target.name:=⟨_,rfl⟩
 rw [←htn] at TY hpf hnz
 rw [hk] at q0
 have hd:lN s S=(match fK s.value S with
   | (none,w2)=>(false,w2)
   | (some t,w2)=>fH w2 tn t):=by
  unfold lN
  rw [if_neg (by omega),if_pos hk,hpf]
  rfl
 have HD:=ah hd
 have H:=ah h
 clear h hx hk hg hsf BH h4 ok hoe ht htn hpf hd
 go_enter Tryz.func38, Tryz.ntmps38
 go_upto_region 14 with (go_at_call 69;(with_reducible refine HP.out.mono ?_);rintro e w1 ⟨⟨p_,rfl,Oe⟩,eu,r_⟩;rw [TY.out] at r_ Oe;obtain rfl:=Oe _ rfl;rw [TY.out];dsimp only [Option.isSome];have R1:=ah r_;clear r_ Oe)
 obtain ⟨w2,hw2⟩:∃w2,w2=w1.alloc (.cells #[.string tn,.string ⟨#[]⟩,.bool false] 137):=⟨_,rfl⟩
 obtain ⟨B,hB⟩:∃B,B=w1.heap.size:=⟨_,rfl⟩
 have hb:yX B tn ⟨#[]⟩ false w2:=by rw [hw2,hB];exact dG.new _ _ _
 have k2:Kept aA w1 w2:=by rw [hw2];exact (Kept.refl aA w1).alloc _
 rw [←hw2,←hB]
 have R2:=R1.out.quiet k2
 have hBx:¬RX F eu B:=R1.out.at_.mine (by rw [hB];exact Nat.le_refl _)
 have HE:=ah (HEV.out eu w2 R2.at_ R2.kept)
 have q1:=hxk.out w2 R2.kept
 have HR2:=ah R2;have HPL:=ah hb;have HBX:=ah hBx
 clear hw2 hB hb k2 R2 R1 hBx q0
 cases he:fK s.value S with
 | mk r1 S1 =>
 rw [he] at HE HD hev
 cases r1 with
 | none =>
  go_wp2_with (go_at_call 67;(with_reducible refine HE.out.mono ?_);rintro e w3 ⟨rfl,Dn,r_⟩;dsimp only [Option.getD,Option.isSome] at r_⊢;have R3:=ah (HR2.out.trans r_);clear r_)
  have fin:Hid (lN s S=(false,S1)):=HD.out
  go_quiet (fail)
  go_wp2_with fail
  go_ret
  exact ⟨by rw [fin.out];rfl,Dn,by rw [fin.out];exact R3.out.quiet ((Kept.refl aA _).drewN _)⟩
 | some t =>
  have hS1:=hev.out.1
  have htz:t.size≤65536:=hev.out.2 t rfl
  have fin:Hid (lN s S=fH S1 tn t):=HD.out
  have Ua:=ah hS1
  have het:(⟨#[]⟩++t:aj)++(⟨#[]⟩:aj)=t:=by
   apply ByteArray.ext
   simp
  have ajv:Hid (∀Dn w3 wx,bC F ov w Dn S1 w3→Kept aA w3 wx→Calls Tryz.prog 71 #[.pointer (some ⟨F.O,0,none⟩),.agg #[.string tn,.string ⟨#[]⟩,.bool false],.string t] wx (yg F Dn wx (fH S1 tn t))):=fun Dn w3 wx hr hk =>
   write_any F Dn S1 tn ⟨#[]⟩ t wx (hr.at_.quiet hk) Ua.out (by omega) (by omega)
  clear hS1
  go_upto_region 26 with (go_at_call 67;(with_reducible refine HE.out.mono ?_);rintro e w3 ⟨rfl,Dn,r_⟩;dsimp only [Option.getD,Option.isSome] at r_⊢;have R3:=ah (HR2.out.trans r_);have P3:=ah (dG.kept HPL.out r_.kept HBX.out);clear r_)
  have HWR:=ah (fun wx hk=>ajv.out Dn w3 wx R3.out hk)
  obtain ⟨Sp,hSp⟩:∃Sp:Nat→Value→World→Prop,Sp=(fun i v wx=>match i with
   | 0=>v=.bool true
   | 1=>v=.bool true
   | 2=>v=.pointer (some ⟨F.R,0,none⟩)
   | 3=>v=.pointer (some ⟨F.R,0,none⟩)
   | 4=>v=.pointer (some ⟨F.R,0,none⟩)
   | 5=>v=.pointer (some ⟨F.W,0,none⟩)
   | 6=>v=.pointer (some ⟨F.W,0,none⟩)
   | 7=>v=.pointer (some ⟨F.W,0,none⟩)
   | 8=>v=.pointer (some ⟨F.O,0,none⟩)
   | 9=>v=.agg #[.string tn,.string ⟨#[]⟩,.bool false]
   | 10=>v=.string ⟨#[]⟩
   | 11=>v=.string t
   | 12=>v=.string (⟨#[]⟩++t)
   | 13=>v=.string ⟨#[]⟩
   | 14=>v=.string t
   | 15=>v=.bool (fH S1 tn t).1
   | 16=>v=.bool (fH S1 tn t).1
   | _=>v=.bool (fH S1 tn t).1):=⟨_,rfl⟩
  obtain ⟨J,hJd⟩:∃J:(Nat→Bool)→(Nat→Value)→World→Prop,J=(fun l f wx=>(l 15=false→Kept aA w3 wx)∧(l 15=true→(fun wx=>∃qW,bC F ov w qW (fH S1 tn t).2 wx) wx)):=⟨_,rfl⟩
  refine iV (RX F Dn) J Sp [119,120,121,122,123,124,125,126,127,128,129,130,131,132,133,134,135,4] (by kernel_rfl) (by kernel_rfl) (by kernel_rfl) (fun i v w w' h hk=>by subst hSp;exact h) ?_ ?_ ?_ ?_
  ·intro i o hi lq x wy hI hJ hlf haft
   rw [hJd] at hJ
   have hsz:x.tmps.size=151:=hI.size
   have s0:x.eval (.tmp 0)=.pointer (some ⟨F.R,0,none⟩):=hI.keep 0 _ rfl (by kernel_rfl)
   have s9:x.eval (.tmp 9)=.pointer (some ⟨B,0,none⟩):=hI.keep 9 _ rfl (by kernel_rfl)
   have s10:x.eval (.tmp 10)=.bool true:=hI.keep 10 _ rfl (by kernel_rfl)
   have s11:x.eval (.tmp 11)=.string ⟨#[]⟩:=hI.keep 11 _ rfl (by kernel_rfl)
   have s12:x.eval (.tmp 12)=.string ⟨#[]⟩:=hI.keep 12 _ rfl (by kernel_rfl)
   have s16:x.eval (.tmp 16)=.string t:=hI.keep 16 _ rfl (by kernel_rfl)
   have hjn:∀(l':Nat→Bool),(∀j,l' j=true↔j=i∨lq j=true)→i≠15→∀f,J l' f wy:=by
    intro l' hl hne f
    have e:=upd_ne hl 15 (Ne.symm hne)
    rw [hJd];show (l' 15=false→_)∧(l' 15=true→_)
    rw [e];exact hJ
   rcases i with _|_|_|_|_|_|_|_|_|_|_|_|_|_|_|_|_|_|i
   all_goals (simp only [List.getElem?_toArray,List.getElem?_cons_zero,List.getElem?_cons_succ,List.getElem?_nil,Option.some.injEq,reduceCtorEq] at hi)
   all_goals subst hi
   ·refine aV rfl ?_
    refine aK (v:=.bool true) ?_ (by subst hSp;exact rfl) (fun l' hl=>hjn l' hl (by decide) _)
    simp only [execOp,resolve,invoke,List.map_toArray,List.map_cons,List.map_nil,s10];go_simp
   ·refine aV rfl ?_
    have abC:x.eval (.tmp 119)=.bool true:=by have h_:=hI.dep haft 0 119 rfl rfl rfl;rw [hSp] at h_;exact h_
    refine aK (v:=.bool true) ?_ (by subst hSp;exact rfl) (fun l' hl=>hjn l' hl (by decide) _)
    simp only [execOp,resolve,invoke,List.map_toArray,List.map_cons,List.map_nil,abC];go_simp
   ·have g_:x.eval (.tmp 120)=.bool true:=by have h_:=hI.dep haft 1 120 rfl rfl rfl;rw [hSp] at h_;exact h_
    refine lT rfl rfl rfl g_ (by rw [hsz];decide) ?_
    refine aK (v:=.pointer (some ⟨F.R,0,none⟩)) ?_ (by subst hSp;exact rfl) (fun l' hl=>hjn l' hl (by decide) _)
    simp only [execOp,resolve,invoke,List.map_toArray,List.map_cons,List.map_nil,s0];go_simp
   ·have g_:x.eval (.tmp 120)=.bool true:=by have h_:=hI.dep haft 1 120 rfl rfl rfl;rw [hSp] at h_;exact h_
    refine lT rfl rfl rfl g_ (by rw [hsz];decide) ?_
    have abD:x.eval (.tmp 121)=.pointer (some ⟨F.R,0,none⟩):=by have h_:=hI.dep haft 2 121 rfl rfl rfl;rw [hSp] at h_;exact h_
    refine aK (v:=.pointer (some ⟨F.R,0,none⟩)) ?_ (by subst hSp;exact rfl) (fun l' hl=>hjn l' hl (by decide) _)
    simp only [execOp,resolve,invoke,List.map_toArray,List.map_cons,List.map_nil,abD];go_simp
   ·have g_:x.eval (.tmp 120)=.bool true:=by have h_:=hI.dep haft 1 120 rfl rfl rfl;rw [hSp] at h_;exact h_
    refine lT rfl rfl rfl g_ (by rw [hsz];decide) ?_
    have abE:x.eval (.tmp 122)=.pointer (some ⟨F.R,0,none⟩):=by have h_:=hI.dep haft 3 122 rfl rfl rfl;rw [hSp] at h_;exact h_
    refine aK (v:=.pointer (some ⟨F.R,0,none⟩)) ?_ (by subst hSp;exact rfl) (fun l' hl=>hjn l' hl (by decide) _)
    simp only [execOp,resolve,invoke,List.map_toArray,List.map_cons,List.map_nil,abE];go_simp
   ·have g_:x.eval (.tmp 120)=.bool true:=by have h_:=hI.dep haft 1 120 rfl rfl rfl;rw [hSp] at h_;exact h_
    refine lT rfl rfl rfl g_ (by rw [hsz];decide) ?_
    have abG:x.eval (.tmp 123)=.pointer (some ⟨F.R,0,none⟩):=by have h_:=hI.dep haft 4 123 rfl rfl rfl;rw [hSp] at h_;exact h_
    have hk:=hJ.1 (hI.no (hI.no (hI.no (hI.no hlf 6 rfl rfl) 7 rfl rfl) 8 rfl rfl) 15 rfl rfl)
    obtain ⟨r0,_⟩:=(R3.out.at_.quiet hk).yc
    obtain ⟨u0,_⟩:=(R3.out.at_.quiet hk).pO
    obtain ⟨c0,c1,c2,_⟩:=yX.cells (dG.kept P3.out hk (fun h=>h))
    refine aK (v:=.pointer (some ⟨F.W,0,none⟩)) ?_ (by subst hSp;exact rfl) (fun l' hl=>hjn l' hl (by decide) _)
    simp only [execOp,resolve,invoke,List.map_toArray,List.map_cons,List.map_nil,abG];go_simp
   ·have g_:x.eval (.tmp 120)=.bool true:=by have h_:=hI.dep haft 1 120 rfl rfl rfl;rw [hSp] at h_;exact h_
    refine lT rfl rfl rfl g_ (by rw [hsz];decide) ?_
    have abH:x.eval (.tmp 124)=.pointer (some ⟨F.W,0,none⟩):=by have h_:=hI.dep haft 5 124 rfl rfl rfl;rw [hSp] at h_;exact h_
    refine aK (v:=.pointer (some ⟨F.W,0,none⟩)) ?_ (by subst hSp;exact rfl) (fun l' hl=>hjn l' hl (by decide) _)
    simp only [execOp,resolve,invoke,List.map_toArray,List.map_cons,List.map_nil,abH];go_simp
   ·have g_:x.eval (.tmp 120)=.bool true:=by have h_:=hI.dep haft 1 120 rfl rfl rfl;rw [hSp] at h_;exact h_
    refine lT rfl rfl rfl g_ (by rw [hsz];decide) ?_
    have abI:x.eval (.tmp 125)=.pointer (some ⟨F.W,0,none⟩):=by have h_:=hI.dep haft 6 125 rfl rfl rfl;rw [hSp] at h_;exact h_
    refine aK (v:=.pointer (some ⟨F.W,0,none⟩)) ?_ (by subst hSp;exact rfl) (fun l' hl=>hjn l' hl (by decide) _)
    simp only [execOp,resolve,invoke,List.map_toArray,List.map_cons,List.map_nil,abI];go_simp
   ·have g_:x.eval (.tmp 120)=.bool true:=by have h_:=hI.dep haft 1 120 rfl rfl rfl;rw [hSp] at h_;exact h_
    refine lT rfl rfl rfl g_ (by rw [hsz];decide) ?_
    have abJ:x.eval (.tmp 126)=.pointer (some ⟨F.W,0,none⟩):=by have h_:=hI.dep haft 7 126 rfl rfl rfl;rw [hSp] at h_;exact h_
    have hk:=hJ.1 (hI.no hlf 15 rfl rfl)
    obtain ⟨r0,_⟩:=(R3.out.at_.quiet hk).yc
    obtain ⟨u0,_⟩:=(R3.out.at_.quiet hk).pO
    obtain ⟨c0,c1,c2,_⟩:=yX.cells (dG.kept P3.out hk (fun h=>h))
    refine aK (v:=.pointer (some ⟨F.O,0,none⟩)) ?_ (by subst hSp;exact rfl) (fun l' hl=>hjn l' hl (by decide) _)
    simp only [execOp,resolve,invoke,List.map_toArray,List.map_cons,List.map_nil,abJ];go_simp
   ·have g_:x.eval (.tmp 120)=.bool true:=by have h_:=hI.dep haft 1 120 rfl rfl rfl;rw [hSp] at h_;exact h_
    refine lT rfl rfl rfl g_ (by rw [hsz];decide) ?_
    have hk:=hJ.1 (hI.no hlf 15 rfl rfl)
    obtain ⟨r0,_⟩:=(R3.out.at_.quiet hk).yc
    obtain ⟨u0,_⟩:=(R3.out.at_.quiet hk).pO
    obtain ⟨c0,c1,c2,_⟩:=yX.cells (dG.kept P3.out hk (fun h=>h))
    refine aK (v:=.agg #[.string tn,.string ⟨#[]⟩,.bool false]) ?_ (by subst hSp;exact rfl) (fun l' hl=>hjn l' hl (by decide) _)
    simp only [execOp,resolve,invoke,List.map_toArray,List.map_cons,List.map_nil,s9];go_simp
   ·have g_:x.eval (.tmp 120)=.bool true:=by have h_:=hI.dep haft 1 120 rfl rfl rfl;rw [hSp] at h_;exact h_
    refine lT rfl rfl rfl g_ (by rw [hsz];decide) ?_
    refine aK (v:=.string ⟨#[]⟩) ?_ (by subst hSp;exact rfl) (fun l' hl=>hjn l' hl (by decide) _)
    simp only [execOp,resolve,invoke,List.map_toArray,List.map_cons,List.map_nil,s11];go_simp
   ·have g_:x.eval (.tmp 120)=.bool true:=by have h_:=hI.dep haft 1 120 rfl rfl rfl;rw [hSp] at h_;exact h_
    refine lT rfl rfl rfl g_ (by rw [hsz];decide) ?_
    refine aK (v:=.string t) ?_ (by subst hSp;exact rfl) (fun l' hl=>hjn l' hl (by decide) _)
    simp only [execOp,resolve,invoke,List.map_toArray,List.map_cons,List.map_nil,s16];go_simp
   ·have g_:x.eval (.tmp 120)=.bool true:=by have h_:=hI.dep haft 1 120 rfl rfl rfl;rw [hSp] at h_;exact h_
    refine lT rfl rfl rfl g_ (by rw [hsz];decide) ?_
    have ajw:x.eval (.tmp 129)=.string ⟨#[]⟩:=by have h_:=hI.dep haft 10 129 rfl rfl rfl;rw [hSp] at h_;exact h_
    have ajx:x.eval (.tmp 130)=.string t:=by have h_:=hI.dep haft 11 130 rfl rfl rfl;rw [hSp] at h_;exact h_
    refine aK (v:=.string (⟨#[]⟩++t)) ?_ (by subst hSp;exact rfl) (fun l' hl=>hjn l' hl (by decide) _)
    simp only [execOp,resolve,invoke,List.map_toArray,List.map_cons,List.map_nil,ajw,ajx];go_simp;omega
   ·have g_:x.eval (.tmp 120)=.bool true:=by have h_:=hI.dep haft 1 120 rfl rfl rfl;rw [hSp] at h_;exact h_
    refine lT rfl rfl rfl g_ (by rw [hsz];decide) ?_
    refine aK (v:=.string ⟨#[]⟩) ?_ (by subst hSp;exact rfl) (fun l' hl=>hjn l' hl (by decide) _)
    simp only [execOp,resolve,invoke,List.map_toArray,List.map_cons,List.map_nil,s12];go_simp
   ·have g_:x.eval (.tmp 120)=.bool true:=by have h_:=hI.dep haft 1 120 rfl rfl rfl;rw [hSp] at h_;exact h_
    refine lT rfl rfl rfl g_ (by rw [hsz];decide) ?_
    have ajy:x.eval (.tmp 131)=.string (⟨#[]⟩++t):=by have h_:=hI.dep haft 12 131 rfl rfl rfl;rw [hSp] at h_;exact h_
    have ajz:x.eval (.tmp 132)=.string ⟨#[]⟩:=by have h_:=hI.dep haft 13 132 rfl rfl rfl;rw [hSp] at h_;exact h_
    refine aK (v:=.string t) ?_ (by subst hSp;exact rfl) (fun l' hl=>hjn l' hl (by decide) _)
    simp only [execOp,resolve,invoke,List.map_toArray,List.map_cons,List.map_nil,ajy,ajz];go_simp;omega
   ·have g_:x.eval (.tmp 120)=.bool true:=by have h_:=hI.dep haft 1 120 rfl rfl rfl;rw [hSp] at h_;exact h_
    refine lT rfl rfl rfl g_ (by rw [hsz];decide) ?_
    have abK:x.eval (.tmp 127)=.pointer (some ⟨F.O,0,none⟩):=by have h_:=hI.dep haft 8 127 rfl rfl rfl;rw [hSp] at h_;exact h_
    have ajA:x.eval (.tmp 128)=.agg #[.string tn,.string ⟨#[]⟩,.bool false]:=by have h_:=hI.dep haft 9 128 rfl rfl rfl;rw [hSp] at h_;exact h_
    have ajB:x.eval (.tmp 133)=.string t:=by have h_:=hI.dep haft 14 133 rfl rfl rfl;rw [hSp] at h_;exact h_
    have hk:=hJ.1 hlf
    refine AQ (f:=71) (args:=#[.pointer (some ⟨F.O,0,none⟩),.agg #[.string tn,.string ⟨#[]⟩,.bool false],.string t]) (by simp only [execOp,resolve,invoke,List.map_toArray,List.map_cons,List.map_nil,abK,ajA,ajB];go_simp) ((HWR.out _ hk).mono ?_)
    rintro e w4 ⟨rfl,ov4,r_⟩
    refine ⟨_,rfl,by subst hSp;exact rfl,r_.kept,fun l' hl=>?_⟩
    rw [hJd];exact ⟨fun e=>(by rw [iC hl] at e;cases e),fun _=>⟨ov4,R3.out.trans (bC.after hk r_)⟩⟩
   ·refine aV rfl ?_
    have abL:x.eval (.tmp 120)=.bool true:=by have h_:=hI.dep haft 1 120 rfl rfl rfl;rw [hSp] at h_;exact h_
    have ajC:x.eval (.tmp 134)=.bool (fH S1 tn t).1:=by have h_:=hI.dep haft 15 134 rfl rfl rfl;rw [hSp] at h_;exact h_
    refine aK (v:=.bool (fH S1 tn t).1) ?_ (by subst hSp;exact rfl) (fun l' hl=>hjn l' hl (by decide) _)
    simp only [execOp,resolve,invoke,List.map_toArray,List.map_cons,List.map_nil,abL,ajC];go_simp
   ·refine aV rfl ?_
    have ajD:x.eval (.tmp 135)=.bool (fH S1 tn t).1:=by have h_:=hI.dep haft 16 135 rfl rfl rfl;rw [hSp] at h_;exact h_
    refine aK (v:=.bool (fH S1 tn t).1) ?_ (by subst hSp;exact rfl) (fun l' hl=>hjn l' hl (by decide) _)
    simp only [execOp,resolve,invoke,List.map_toArray,List.map_cons,List.map_nil,ajD];go_simp
  ·intro lq hl
   rw [hJd];exact ⟨fun _=>(Kept.refl aA _).drew,fun e=>by rw [hl 15 (by decide)] at e;cases e⟩
  ·intro lq l' f wx hl h
   rw [hJd] at h⊢;dsimp only at h⊢;rw [←hl 15 (by decide)];exact h
  ·intro f wy hK hS hJ
   rw [hJd] at hJ
   have hJ:=hJ.2 rfl
   simp only [gV,List.foldl_cons,List.foldl_nil,List.setIfInBounds_toArray,List.set_cons_zero,List.set_cons_succ]
   obtain ⟨ov4,R4⟩:=hJ
   have e4:f 4=.bool (fH S1 tn t).1:=by have h_:=hS 17 _ _ rfl rfl;rw [hSp] at h_;exact h_
   rw [e4]
   go_wp2_with fail
   go_ret
   exact ⟨by rw [fin.out];rfl,ov4,by rw [fin.out];exact R4⟩
end
end Go.Proofs.YtgoijmpahffnhaaGreatDoor

namespace Go.Proofs.YtgoijmpahffnhaaGreatDoor
set_option linter.all false
open Go.RowKit
set_option maxRecDepth 100000
set_option maxHeartbeats 1000000
theorem aZ.setW {F:dF} {ov:Value} {S S':aU} {w:World} {i:Nat} {v:Value} (h:aZ F ov S w) (hset:(Gm F S).set i v=Gm F S') (e0:∀a c,Gl F ov S' a c=Gl F ov S a c) (e1:S'.input=S.input) (e2:S'.output=S.output) (e3:S'.vars=S.vars) (e4:S'.items=S.items) :
  bC F ov w ov S' (w.setCell ⟨F.W,i,none⟩ v):=by
 have k:Kept (· = F.W) w (w.setCell ⟨F.W,i,none⟩ v):=(Kept.refl (· = F.W) w).setCell (p:=⟨F.W,i,none⟩) (.inl rfl) _
 obtain ⟨n1,n2,n3,n4,n5,m1,m2,m3,m4,-⟩:=h.fix.ne
 obtain ⟨hs,h1,h2⟩:=h.hits
 obtain ⟨a,c,h3,h4,h5⟩:=h.Dl
 have hW:=h.fix.nW
 refine ⟨⟨h.pq.kept k (fun b hb=>by have:b=F.W:=hb;omega),h.fix,Nat.le_trans h.sz k.size,h.run.kept k (fun e=>m1 e.symm),by rw [←hset];exact h.Dk.set i v,⟨hs,h1,h2.kept k (fun e=>m4 e.symm)⟩,
  ⟨a,c,by rw [e0];exact h3.kept k n1,by rw [e1];exact sJ h4 k h.pq.low (fun b hb=>by have:b=F.W:=hb;omega),by rw [e1];exact h5⟩,?_,by rw [e3];exact h.vars.kept k (fun e=>m2 e.symm),by rw [e4];exact h.items.kept k (fun e=>m3 e.symm)⟩,k.more (fun _ h=>.inr (.inl h)),fun _ h=>.inl h⟩
 rw [e2]
 exact h.out.kept k (fun b hb e=>by have e:b=F.W:=e;have:=h.out.lt b hb;omega)
theorem aZ.abM {F:dF} {ov:Value} {S:aU} {w:World} (h:aZ F ov S w):bC F ov w ov (tick S) (w.setCell ⟨F.W,2,none⟩ (.int .i64 ((S.steps:Int)+1))) :=
 h.setW (S':=tick S) (by unfold Gm tick;simp) (fun _ _=>rfl) rfl rfl rfl rfl
theorem aZ.agc {F:dF} {ov:Value} {S:aU} {w:World} (h:aZ F ov S w) (i:Nat) (n:Int):bC F ov w ov S (w.setCell ⟨F.H,i,none⟩ (.int .i64 n)):=by
 have k:Kept (· = F.H) w (w.setCell ⟨F.H,i,none⟩ (.int .i64 n)):=(Kept.refl (· = F.H) w).setCell (p:=⟨F.H,i,none⟩) (.inl rfl) _
 obtain ⟨n1,n2,n3,n4,n5,m1,m2,m3,m4,p1,p2,p3,r1,r2,r3⟩:=h.fix.ne
 obtain ⟨hs,h1,h2⟩:=h.hits
 obtain ⟨a,c,h3,h4,h5⟩:=h.Dl
 have hH:=h.fix.nH
 refine ⟨⟨h.pq.kept k (fun b hb=>by have:b=F.H:=hb;omega),h.fix,Nat.le_trans h.sz k.size,h.run.kept k p3,h.Dk.kept k m4,⟨hs.set i n,by simpa using h1,by rw [List.map_set];exact h2.set i _⟩,
  ⟨a,c,h3.kept k n5,sJ h4 k h.pq.low (fun b hb=>by have:b=F.H:=hb;omega),h5⟩,?_,h.vars.kept k r2,h.items.kept k r3⟩,k.more (fun _ h=>.inr (.inr (.inr (.inr (.inl h))))),fun _ h=>.inl h⟩
 exact h.out.kept k (fun b hb e=>by have e:b=F.H:=e;have:=h.out.lt b hb;omega)
theorem aZ.hit {F:dF} {ov:Value} {S:aU} {w:World} (h:aZ F ov S w) {i:Nat} (hi:i<F.l.length):∃n,w.cell? ⟨F.H,i,none⟩=some (.int .i64 n)∧w.frozen? ⟨F.H,i,none⟩=false:=by
 obtain ⟨hs,h1,h2⟩:=h.hits
 exact ⟨hs[i],h2.cell (by rw [List.getElem?_map,List.getElem?_eq_getElem (by omega)];rfl),h2.free i⟩
theorem NR (F:dF) (ov:Value) (S:aU) (i:Nat) (w:World) (h:aZ F ov S w) (hi:i<F.l.length) (hl:F.lim≤1000000) (hs:S.steps≤F.lim) :
  Calls Tryz.prog 37 #[.pointer (some ⟨F.W,0,none⟩),.int .i64 i] w (yg F ov w (if S.steps=F.lim then (false,{S with how:=2}) else (true,tick S))):=by
 obtain ⟨u0,u2,u3,u4,uf⟩:=h.pO
 by_cases hc:S.steps=F.lim
 ·rw [if_pos hc]
  have e1:((S.steps:Int)==(F.lim:Int))=true:=by rw [hc];simp
  have HS:=ah (fun (wx:World) (k:Kept aA w wx)=>bC.after k ((h.quiet k).Ho 2))
  obtain ⟨a,c,_,_,_,_,_,_,q6,qf,_⟩:=h.lQ
  have f6:=qf 6
  clear h hc uf qf
  go_enter Tryz.func37, Tryz.ntmps37
  go_wp2_with fail
  go_quiet (fail)
  go_wp2_with fail
  go_ret
  exact ⟨rfl,ov,HS.out _ ((Kept.refl aA w).drewN _)⟩
 ·rw [if_neg hc]
  have e1:((S.steps:Int)==(F.lim:Int))=false:=by simp;omega
  obtain ⟨n,c1,f1⟩:=h.hit hi
  have f2:=uf 2
  have HS:Hid (∀(wx:World),Kept aA w wx→∀m,bC F ov w ov (tick S) ((wx.setCell ⟨F.W,2,none⟩ (.int .i64 ((S.steps:Int)+1))).setCell ⟨F.H,i,none⟩ (.int .i64 m))):=fun wx k m=>by
   have h1:=(h.quiet k).abM
   exact bC.after k (h1.trans (h1.at_.agc i m))
  have hne:F.W≠F.H:=h.fix.ne.2.2.2.2.2.2.2.2.1
  have hne':F.H≠F.W:=fun e=>hne e.symm
  have bi:(i:Int)<(F.l.length:Int):=by omega
  clear h hc uf
  go_enter Tryz.func37, Tryz.ntmps37
  go_wp2_with fail
  go_quiet (fail)
  go_wp2_with fail
  go_ret
  exact ⟨rfl,ov,HS.out _ ((Kept.refl aA w).drewN _) _⟩
theorem afL (F:dF) (nb:aj→Bool) (kb:Int→Bool) (BH:zY F nb kb) (h4:kb 4=false) (ov:Value) (S:aU) (Sx:Nat→Prop) (s:aF) (b o:Nat) (w:World) (h:aZ F ov S w) (ok:bH S) (hsx:∀b,Sx b→b<F.N) (hx:AL w Sx b o s) (hk:okS nb kb s=true) :
  Calls Tryz.prog 38 #[.pointer (some ⟨F.R,0,none⟩),.pointer (some ⟨b,o,none⟩)] w (yg F ov w (lN s S)):=by
 unfold okS at hk
 by_cases h1:s.kind=1
 ·exact aey F ov S Sx s b o w h hx h1
 rw [if_neg h1] at hk
 by_cases h2:s.kind=2
 ·rw [if_pos h2] at hk;exact aez F nb kb BH h4 ov S Sx s b o w h ok hsx hx h2 hk
 rw [if_neg h2,Bool.and_eq_true,Bool.and_eq_true,Bool.and_eq_true] at hk
 refine Yk F nb kb BH h4 ov S Sx s b o w h ok hsx hx (of_decide_eq_true hk.1) hk.2.1 ?_
 rcases of_decide_eq_true hk.2.2.2 with h3|h3
 ·exact h3
 ·exfalso
  have:=hk.2.2.1
  generalize s.target=x at this h3
  obtain ⟨k,t,n,nm,kids⟩:=x
  obtain rfl:k=4:=h3
  rw [sH,if_neg (by decide),if_neg (by decide),if_neg (by decide),if_pos rfl,h4] at this
  simp at this
end Go.Proofs.YtgoijmpahffnhaaGreatDoor

namespace Go.Proofs.YtgoijmpahffnhaaGreatDoor
set_option linter.all false
open Go.RowKit
set_option maxRecDepth 100000
set_option maxHeartbeats 8000000
theorem TG {l:List aF} {u:aj} {d:Int} (h:kH l u=some d):∃k:Nat,d=k∧k<l.length:=by
 unfold kH at h
 rw [tY] at h
 rcases vV (NQ u) l 0 with ⟨h1,_⟩|⟨k,hk,h1,_⟩
 ·rw [h1] at h;cases h
 ·rw [h1] at h
  rw [if_neg (by omega)] at h
  cases h
  exact ⟨0+k,rfl,by omega⟩
theorem abm {l:List aF} {i:Nat} (u:aj) (hi:i<l.length):nextL l i u≤l.length:=by
 unfold nextL
 split
 ·omega
 split
 ·exact Nat.le_refl _
 ·cases h:kH l u with
  | none=>simp
  | some d=>obtain ⟨k,rfl,hk⟩:=TG h;simp;omega
theorem TI {s:aj} (h:s.size=0):s.toList=[]:=by rw [pR h];rw [ByteArray.toList_eq]
theorem KP {s:aj} (h:s.toList=[]):(⟨#[]⟩:aj)=s:=(Gf.2 h).symm
def ThQ (F:dF) (ov:Value) (w:World) (S:aU) (e:Ending) (w':World):Prop:=e=.returned (.int .i64 0)∧∃qW,bC F ov w qW S w'
structure ThJ (F:dF) (ov:Value) (w:World) (R0:aU) (i n:Nat) (qJ:Value) (Sj:aU) (wr:World):Prop where
 eq:gQ F.l n i Sj=R0
 le:i≤F.l.length
 st:Sj.steps+n=F.lim
 ok:bH Sj
 run:bC F ov w qJ Sj wr
def sK (F:dF) (w:World):Nat:=(intOf ((w.cell? ⟨F.W,2,none⟩).getD undef)).toNat
theorem aZ.sK {F:dF} {ov:Value} {S:aU} {w:World} (h:aZ F ov S w):sK F w=S.steps:=by
 unfold Go.Proofs.YtgoijmpahffnhaaGreatDoor.sK
 rw [h.pO.2.1]
 simp [intOf]
section
variable (F:dF) (nb:aj→Bool) (kb:Int→Bool) (BH:zY F nb kb) (h4:kb 4=false) (ov:Value) (S:aU) (w:World) (h:aZ F ov S w) (ok:bH S) (hl:∀s∈F.l,okS nb kb s=true) (hlim:F.lim≤1000000) (hlen:F.l.length≤1000000)
include h ok hl hlim hlen BH h4
theorem QN (hs:S.steps≤F.lim):Calls Tryz.prog 27 #[.pointer (some ⟨F.R,0,none⟩),.int .i64 0] w (ThQ F ov w (gQ F.l (F.lim-S.steps) 0 S)):=by
 obtain ⟨R0,hR0⟩:∃R0,gQ F.l (F.lim-S.steps) 0 S=R0:=⟨_,rfl⟩
 rw [hR0]
 have hstart:Hid (ThJ F ov w R0 0 (F.lim-S.steps) ov S w):=⟨hR0,Nat.zero_le _,by omega,ok,bC.refl h⟩
 have H:=ah h;have HB:=ah BH;have HL:=ah hl
 clear h BH hl ok hR0
 go_enter Tryz.func27, Tryz.ntmps27
 go_wp2_with fail
 go_loopw [1] (fun a wr=>∃(i n:Nat) (qJ:Value) (Sj:aU),a=.int .i64 i∧ThJ F ov w R0 i n qJ Sj wr) (fun _ wr=>F.lim+1-sK F wr)
 case atStart=>exact ⟨0,_,ov,S,rfl,hstart.out⟩
 case round =>
  obtain ⟨i,n,qJ,Sj,rfl,hJ⟩:=hrel
  have HJ:=ah hJ
  have hle:=hJ.le
  have hst:=hJ.st
  have hrun:=hJ.run
  obtain ⟨r0,r1,r2,r3⟩:=hrun.at_.yc
  by_cases hlt:i<F.l.length
  ·have e1:decide ((i:Int)<(F.l.length:Int))=true:=ak (by omega)
   have e1':decide (i<F.l.length)=true:=ak hlt
   by_cases hn:n=0
   ·subst hn
    have fin:Hid (R0={Sj with how:=2}):=by unfold Hid;rw [←hJ.eq,gQ,dif_pos hlt]
    have HS:=NR F qJ Sj i wr hrun.at_ hlt hlim (by omega)
    rw [if_pos (by omega)] at HS
    have HS:=ah HS
    clear hJ hrun r2 r3
    go_wp2_with (go_at_call 37;(with_reducible refine HS.out.mono ?_);rintro e w1 ⟨rfl,eu,r_⟩;have R1:=ah (HJ.out.run.trans r_);clear r_)
    go_ret
    exact ⟨rfl,eu,by rw [fin.out];exact R1.out⟩
   ·obtain ⟨m,rfl⟩:∃m,n=m+1:=⟨n-1,by omega⟩
    have HS:=NR F qJ Sj i wr hrun.at_ hlt hlim (by omega)
    rw [if_neg (by omega)] at HS
    have HS:=ah HS
    obtain ⟨b,o,hal,ajq⟩:=hrun.at_.pq.prog (by omega)
    have okT:bH (tick Sj):=hJ.ok.tick
    have hsm:okS nb kb F.l[i]=true:=HL.out _ (List.getElem_mem hlt)
    have hth:=hJ.eq
    rw [gQ,dif_pos hlt] at hth
    have NS:Hid (∀eu w1,aZ F eu (tick Sj) w1→Calls Tryz.prog 38 #[.pointer (some ⟨F.R,0,none⟩),.pointer (some ⟨b,o+i*24,none⟩)] w1 (yg F eu w1 (lN F.l[i] (tick Sj)))):=fun eu w1 hr=>by
     obtain ⟨b',o',hal',Vb⟩:=hr.pq.prog (by omega)
     rw [hal] at hal'
     simp only [Option.some.injEq,Addr.mk.injEq,and_true] at hal'
     obtain ⟨rfl,rfl⟩:=hal'
     exact afL F nb kb HB.out h4 eu (tick Sj) F.S F.l[i] b (o+i*24) w1 hr okT hr.pq.hS (Vb i hlt) hsm
    have HST:Hid (∀eu S1 w1,aZ F eu S1 w1→AL w1 F.S b (o+i*24) F.l[i]):=fun eu S1 w1 hr=>by
     obtain ⟨b',o',hal',Vb⟩:=hr.pq.prog (by omega)
     rw [hal] at hal'
     simp only [Option.some.injEq,Addr.mk.injEq,and_true] at hal'
     obtain ⟨rfl,rfl⟩:=hal'
     exact Vb i hlt
    have hdo:=adv (nb:=nb) (kb:=kb) F.l[i] (tick Sj) hsm okT
    have hds:=(XR F.l[i] (tick Sj)).1
    rw [hal] at r1
    have HR1:Hid (∀eu S1 w1,aZ F eu S1 w1→w1.cell? ⟨F.R,0,none⟩=some (.pointer (some ⟨F.W,0,none⟩))∧w1.cell? ⟨F.R,1,none⟩=some (.slice (some ⟨b,o,none⟩) F.l.length F.cl)∧w1.cell? ⟨F.R,2,none⟩=some (.pointer (some ⟨F.T,0,none⟩))∧w1.cell? ⟨F.R,3,none⟩=some (.int .i64 0)):=fun eu S1 w1 hr=>by
     have:=hr.yc;rw [hal] at this;exact this
    have bi:(i:Int)<(F.l.length:Int):=by omega
    cases hd:lN F.l[i] (tick Sj) with
    | mk bb S1 =>
    rw [hd] at NS hdo hds hth
    dsimp only at hth hdo hds
    have hok1:bH S1:=hdo
    have hs1:S1.steps=Sj.steps+1:=hds
    clear hJ hrun r2 r3 hsm okT hd hdo hds ajq hal
    by_cases hw:S1.how≠0
    ·rw [if_pos hw] at hth
     have fin:=ah hth
     have e2:(S1.how != 0)=true:=by simpa using hw
     clear hth hw
     go_wp2_with (first
      | (go_at_call 37;(with_reducible refine HS.out.mono ?_);rintro e w1 ⟨rfl,eu,r_⟩;have R1:=ah r_;obtain ⟨g0,g1,g2,g3⟩:=HR1.out _ _ _ r_.at_;clear r_)
      | (go_at_call 38;(with_reducible refine (NS.out eu w1 R1.out.at_).mono ?_);rintro e w2 ⟨rfl,mV,r_⟩;have R2:=ah (HJ.out.run.trans (R1.out.trans r_));obtain ⟨g0,g1,g2,g3⟩:=HR1.out _ _ _ r_.at_;obtain ⟨u0,_⟩:=r_.at_.pO;obtain ⟨a_,c_,_,_,_,_,_,_,q6,_⟩:=r_.at_.lQ;clear r_))
     go_ret
     exact ⟨rfl,mV,by rw [←fin.out];exact R2.out⟩
    ·rw [if_neg hw] at hth
     have e2:(S1.how != 0)=false:=by simpa using hw
     obtain ⟨tv,CW⟩:∃tv,tv=toS F.l[i] bb:=⟨_,rfl⟩
     rw [←CW] at hth
     have HTH:=ah hth
     have KU:=ah CW
     clear hth hw CW
     go_upto_block 2 with (first
      | (go_at_call 37;(with_reducible refine HS.out.mono ?_);rintro e w1 ⟨rfl,eu,r_⟩;have R1:=ah r_;obtain ⟨g0,g1,g2,g3⟩:=HR1.out _ _ _ r_.at_;clear r_)
      | (go_at_call 38;(with_reducible refine (NS.out eu w1 R1.out.at_).mono ?_);rintro e w2 ⟨rfl,mV,r_⟩;have R2:=ah (HJ.out.run.trans (R1.out.trans r_));obtain ⟨g0,g1,g2,g3⟩:=HR1.out _ _ _ r_.at_;obtain ⟨u0,_⟩:=r_.at_.pO;obtain ⟨a_,c_,_,_,_,_,_,_,q6,_⟩:=r_.at_.lQ;obtain ⟨_,_,_,_,_,q21,q22,q23⟩:=uX (HST.out _ _ _ r_.at_);clear r_))
     go_cut [7] (fun c wx=>c=.string tv∧wx=w2)
     case first =>
      unfold toS at KU
      by_cases ha:F.l[i].always.size=0
      ·have a1:=TI ha
       have a2:F.l[i].always.toList.isEmpty=true:=by rw [a1];rfl
       have CW:=KU.out
       rw [if_neg (fun h=>h ha)] at CW
       cases bb with
       | true =>
        rw [if_pos rfl] at CW
        clear KU ha HS NS HST HR1 HJ
        go_wp2_with fail
        go_meet
        exact ⟨by rw [CW],rfl⟩
       | false =>
        rw [if_neg (fun h=>by cases h)] at CW
        clear KU ha HS NS HST HR1 HJ
        go_wp2_with fail
        go_meet
        exact ⟨by rw [CW],rfl⟩
      ·have a1:F.l[i].always.toList≠[]:=fun e=>ha (by rw [←KP e];rfl)
       have a2:F.l[i].always.toList.isEmpty=false:=by simpa using a1
       have CW:=KU.out
       rw [if_pos ha] at CW
       clear KU ha HS NS HST HR1 HJ
       go_wp2_with fail
       go_meet
       exact ⟨by rw [CW],rfl⟩
     case rest =>
      obtain ⟨rfl,rfl⟩:=hcut
      have hnx:Hid (ThJ F ov w R0 (nextL F.l i tv) m mV S1 wc):=⟨HTH.out,abm tv hlt,by omega,hok1,R2.out⟩
      have hms:Hid (F.lim+1-sK F wc<F.lim+1-sK F wr):=by
       unfold Hid
       rw [R2.out.at_.sK,HJ.out.run.at_.sK];omega
      have htz:tv.size≤maxLen:=by
       obtain ⟨_,_,hz,_⟩:=HST.out _ _ _ R2.out.at_
       have h1:=hz.always;have h2:=hz.yes;have h3:=hz.bW
       rw [KU.out];unfold toS maxLen;split
       ·omega
       ·split<;>omega
      have hlk:=R2.out.at_.pq.lu.look tv htz
      obtain ⟨t0,_⟩:=R2.out.at_.pq.tab.cells
      clear HS NS HST HR1 HJ HTH KU R1 R2 q21 q22 q23 q6 u0
      by_cases h0:tv.size=0
      ·have a1:=TI h0
       have a2:tv.toList.isEmpty=true:=by rw [a1];rfl
       have hne:nextL F.l i tv=i+1:=if_pos h0
       rw [hne] at hnx
       clear h0 hlk hne
       go_wp2_with fail
       go_roundw
       case rel=>exact ⟨i+1,m,mV,S1,by go_num,hnx.out⟩
       case measure=>exact hms.out
      have a1:tv.toList≠[]:=fun e=>h0 (by rw [←KP e];rfl)
      have a2:tv.toList.isEmpty=false:=by simpa using a1
      by_cases hE:tv=afH
      ·have b1:(tv.toList==[69,78,68])=true:=yR hE
       have hne:nextL F.l i tv=F.l.length:=by unfold nextL;rw [if_neg h0,if_pos (.inl hE)]
       rw [hne] at hnx
       clear h0 hlk hne hE
       go_wp2_with fail
       go_roundw
       case rel=>exact ⟨F.l.length,m,mV,S1,by go_num,hnx.out⟩
       case measure=>exact hms.out
      have b1:(tv.toList==[69,78,68])=false:=yS hE
      by_cases hR:tv=afI
      ·have b2:(tv.toList==[82,69,84,85,82,78])=true:=yR hR
       have hne:nextL F.l i tv=F.l.length:=by unfold nextL;rw [if_neg h0,if_pos (.inr (.inl hR))]
       rw [hne] at hnx
       clear h0 hlk hne hE hR
       go_wp2_with fail
       go_roundw
       case rel=>exact ⟨F.l.length,m,mV,S1,by go_num,hnx.out⟩
       case measure=>exact hms.out
      have b2:(tv.toList==[82,69,84,85,82,78])=false:=yS hR
      by_cases hF:tv=adu
      ·have b3:(tv.toList==[70,82,69,84,85,82,78])=true:=yR hF
       have hne:nextL F.l i tv=F.l.length:=by unfold nextL;rw [if_neg h0,if_pos (.inr (.inr hF))]
       rw [hne] at hnx
       clear h0 hlk hne hE hR hF
       go_wp2_with fail
       go_roundw
       case rel=>exact ⟨F.l.length,m,mV,S1,by go_num,hnx.out⟩
       case measure=>exact hms.out
      have b3:(tv.toList==[70,82,69,84,85,82,78])=false:=yS hF
      have hne:nextL F.l i tv=((kH F.l tv).getD 0).toNat:=by unfold nextL;rw [if_neg h0,if_neg (by rintro (h|h|h);exact hE h;exact hR h;exact hF h)]
      obtain ⟨kn,hkn⟩:∃kn:Nat,(kH F.l tv).getD 0=(kn:Int):=by
       cases hm:kH F.l tv with
       | none=>exact ⟨0,rfl⟩
       | some d=>obtain ⟨k,rfl,_⟩:=TG hm;exact ⟨k,rfl⟩
      rw [hne,hkn,Int.toNat_natCast] at hnx
      rw [hkn] at hlk
      clear h0 hne hE hR hF hkn
      go_wp2_with fail
      go_roundw
      case rel=>exact ⟨kn,m,mV,S1,by go_num,hnx.out⟩
      case measure=>exact hms.out
  ·have e1:decide ((i:Int)<(F.l.length:Int))=false:=au (by omega)
   have e1':decide (i<F.l.length)=false:=au hlt
   have fin:Hid (R0={Sj with how:=1}):=by
    unfold Hid;rw [←hJ.eq]
    cases n with
    | zero=>rw [gQ,dif_neg hlt]
    | succ n=>rw [gQ,dif_neg hlt]
   have HS:=ah (hrun.trans (hrun.at_.Ho 1))
   obtain ⟨u0,_⟩:=hrun.at_.pO
   obtain ⟨a_,c_,_,_,_,_,_,_,q6,qf,_⟩:=hrun.at_.lQ
   have f6:=qf 6
   clear hJ hrun qf
   go_wp2_with fail
   go_ret
   exact ⟨rfl,qJ,by rw [fin.out];exact HS.out⟩
end
end Go.Proofs.YtgoijmpahffnhaaGreatDoor

namespace Go.Proofs.YtgoijmpahffnhaaGreatDoor
set_option linter.all false
open Go.RowKit
set_option maxRecDepth 100000
set_option maxHeartbeats 4000000
def ah0 (F:dF) (ov:Value) (S:aU) (w:World) (e:Ending) (w':World):Prop:=∃(a3 a4:Option Addr) (n3 c3 n4 c4:Nat),e=.returned (.agg #[ov,.int .i64 S.how,.int .i64 S.steps,.slice a3 n3 c3,.slice a4 n4 c4])∧Kept aA w w'
theorem aer:(Tryz.prog.info? 148).map (fun i=>(i.zero,i.size,i.bytes))=some (some (.agg #[.string ⟨#[]⟩,.string ⟨#[]⟩]),2,32):=by kernel_rfl
def afM (ov:Value) (S:aU) (vv:Value):List Value:=[ov,.int .i64 S.how,.int .i64 S.steps,vv,.slice none 0 0]
structure EL (B:Nat) (ov:Value) (S:aU) (w3:World) (j:Nat) (vv:Value) (wr:World):Prop where
 kept:Kept (· = B) w3 wr
 lt:B<w3.heap.size
 blk:dG B 32 (afM ov S vv) wr
 own:∃xs,aO wr w3.heap.size 148 2 vv j xs
theorem EL.put {B:Nat} {ov:Value} {S:aU} {w3 wr wb w4:World} {j:Nat} {vv Hq:Value} {xs ys:List Value} (h:EL B ov S w3 j vv wr) (hx:aO wr w3.heap.size 148 2 vv j xs) (hk:Kept aA wr wb) (hW:aO w4 w3.heap.size 148 2 Hq (j+1) ys) (hg:wb.grownBy w4 vv.ownBlock) :
  EL B ov S w3 (j+1) Hq (w4.setCell ⟨B,3,none⟩ Hq):=by
 have kg:Kept (fun b=>vv.ownBlock=some b) wr w4:=(hk.more (fun _ h=>h.elim)).trans ((Kept.refl _ wb).grown hg fun k hk=>.inl hk)
 have hB:vv.ownBlock≠some B:=fun e=>by have:=(hx.lt B e).1;have:=h.lt;omega
 refine ⟨(h.kept.step kg (fun y hy=>.inr (hx.lt y hy).1)).setCell (p:=⟨B,3,none⟩) (.inl rfl) _,h.lt,(h.blk.kept kg (fun e=>hB e)).set 3 Hq,ys,hW.setCell (fun e=>?_) _⟩
 have:=(hW.lt B (by simpa using e)).1;have:=h.lt;omega
theorem abn (F:dF) (ov:Value) (S:aU) (w:World) (h:aZ F ov S w) (ok:bH S):Calls Tryz.prog 39 #[.pointer (some ⟨F.O,0,none⟩),.int .i64 S.steps] w (ah0 F ov S w):=by
 obtain ⟨i0,hi0,hz0,hz1,hz2⟩:=info_parts aer
 obtain ⟨a0,c0,hov⟩:=h.out.shape
 subst hov
 obtain ⟨w1,hw1⟩:∃w1,w1=w.alloc (.cells #[.slice none 0 0,.int .i64 0,.int .i64 0,.slice none 0 0,.slice none 0 0] 32):=⟨_,rfl⟩
 have k1:Kept aA w w1:=by rw [hw1];exact (Kept.refl aA w).alloc _
 have h1:=h.quiet k1
 obtain ⟨a,c,q0,q1,_,_,q4,_,q6,qf,_⟩:=h1.lQ
 have ltO:F.O<w1.heap.size:=(h1.xlt (.inl rfl)).2
 obtain ⟨B0,hB0⟩:∃B0,B0=w.heap.size:=⟨_,rfl⟩
 have lt0:B0<w1.heap.size:=by rw [hw1,hB0];simp
 have abo:Hid (dG B0 32 [.slice none 0 0,.int .i64 0,.int .i64 0,.slice none 0 0,.slice none 0 0] w1):=by rw [hw1,hB0];exact dG.new w _ _
 have HW1:=ah hw1;have HB0:=ah hB0;have H:=ah h;have H1:=ah h1;have K1:=ah k1
 clear hw1 hB0 h h1 k1 qf
 go_enter Tryz.func39, Tryz.ntmps39
 go_upto_region 1 with fail
 rw [←HW1.out,←HB0.out]
 go_region
 obtain ⟨w2,hw2⟩:∃w2,w2=(w1.alloc (.cells #[.slice a0 S.output.length c0,.int .i64 S.how,.int .i64 S.steps,.slice none 0 0,.slice none 0 0] 32)).drew:=⟨_,rfl⟩
 obtain ⟨B,hB⟩:∃B,B=w1.heap.size:=⟨_,rfl⟩
 have k2:Kept aA w1 w2:=by rw [hw2];exact ((Kept.refl aA w1).alloc _).drew
 have hb2:dG B 32 (afM (.slice a0 S.output.length c0) S (.slice none 0 0)) w2:=by rw [hw2,hB];exact dG.new w1 _ _
 have h2:=H1.out.quiet k2
 have hlt2:B<w2.heap.size:=hb2.lt
 have hB1:w1.heap.size≤B:=by omega
 rw [←hw2,←hB]
 obtain ⟨a',c',g0,g1,_⟩:=h2.lQ
 have hvl:S.vars.length≤1048576:=by
  have:=zZ (fun _=>0) ok.vars
  have:=ok.bytes;have:=ok.most
  omega
 have HSK:=ah (JB w2 F.V S.vars h2.vars hvl)
 have H2:=ah h2;have HB2:=ah hb2;have K2:=ah k2
 clear h2 hb2 k2 hw2 hB q0 q1 q4 q6
 go_wp2_with (first
  | (go_at_call 74;(with_reducible refine (abp (some F.V) _).mono ?_);rintro e w' ⟨rfl,rfl⟩)
  | (go_at_call 73;(with_reducible refine HSK.out.mono ?_);rintro e w3 ⟨v_,ks,rfl,hv_,afO,afP,k_⟩;obtain ⟨ka,kc,rfl⟩:=hv_.shape;have KS:=ah hv_;have KZ:=ah afO;have KL:=ah afP;have K3:=ah (((Kept.refl aA w2).alloc (.cells #[.map (some F.V)] 94)).trans k_);clear hv_ afO afP k_))
 have hstart:Hid (EL B (.slice a0 S.output.length c0) S w3 0 (.slice none 0 0) w3):=⟨Kept.refl _ _,Nat.lt_of_lt_of_le hlt2 K3.out.size,HB2.out.kept K3.out (fun h=>h),[],aO.nil _ _ _ _⟩
 have TJ:Hid (ks.length≤1048576):=Nat.le_trans KL.out hvl
 clear g0 g1
 go_loopw [27] (fun i wr=>∃(j:Nat) (vv:Value),j≤ks.length∧i=.int .i64 j∧EL B (.slice a0 S.output.length c0) S w3 j vv wr) (fun i _=>ks.length-(intOf i).toNat)
 case atStart=>exact ⟨0,_,Nat.zero_le _,rfl,hstart.out⟩
 case round =>
  obtain ⟨j,vv,hj,rfl,hJ⟩:=hrel
  have kw:Kept aA w1 wr:=(K2.out.trans K3.out).step hJ.kept (fun y hy=>.inr (by have:y=B:=hy;omega))
  have JC:=H1.out.quiet kw
  obtain ⟨a',c',g0,g1,_⟩:=JC.lQ
  have KW:=ah kw;have HR:=ah JC;have HJ:=ah hJ
  by_cases hlt:j<ks.length
  ·obtain ⟨g,og,hka,ck⟩:=AP (i:=j) (KS.out.kept hJ.kept (fun b hb e=>by have e:b=B:=e;have:=(KS.out.lt b hb).1;omega)) rfl hlt
   subst hka
   obtain ⟨kj,hkj⟩:∃kj,kj=arg ks j:=⟨_,rfl⟩
   rw [←hkj] at ck
   have hkz:kj.size≤maxLen:=by
    rw [hkj];unfold arg
    rw [List.getD_eq_getElem?_getD,List.getElem?_eq_getElem hlt]
    exact KZ.out _ (List.getElem_mem hlt)
   have hlook:=(JC.vars.kept ((Kept.refl aA wr).drew) (fun h=>h)).look kj hkz
   obtain ⟨lv,hlv⟩:∃lv,lv=lookA S.vars kj:=⟨_,rfl⟩
   rw [←hlv] at hlook
   obtain ⟨xs,hxs⟩:=hJ.own
   obtain ⟨va,vc,hvv⟩:=hxs.shape
   subst hvv
   have v3:wr.cell? ⟨B,3,none⟩=some (.slice va j vc):=hJ.blk.cell rfl
   have v3f:wr.frozen? ⟨B,3,none⟩=false:=hJ.blk.free 3
   have hBr:B<wr.heap.size:=hJ.blk.lt
   have bj:(j:Int)<(ks.length:Int):=by omega
   have FN:Hid (∀{wb w4:World} {Hq:Value} {ys:List Value},Kept aA wr wb→aO w4 w3.heap.size 148 2 Hq (j+1) ys→wb.grownBy w4 (Value.slice va j vc).ownBlock→EL B (.slice a0 S.output.length c0) S w3 (j+1) Hq (w4.setCell ⟨B,3,none⟩ Hq)∧w4.cell? ⟨B,3,none⟩=some (.slice va j vc)∧w4.frozen? ⟨B,3,none⟩=false):=fun {wb w4 Hq ys} hk hW hg=>by
    have kg:Kept (fun b=>(Value.slice va j vc).ownBlock=some b) wr w4:=(hk.more (fun _ h=>h.elim)).trans ((Kept.refl _ wb).grown hg fun k hk=>.inl hk)
    have hb4:=hJ.blk.kept kg (fun e=>by have:=(hxs.lt B e).1;have:=hJ.lt;omega)
    exact ⟨hJ.put hxs hk hW hg,hb4.cell rfl,hb4.free 3⟩
   have WO:Hid (∀wb,Kept aA wr wb→aO wb w3.heap.size 148 2 (.slice va j vc) j xs∧w3.heap.size≤wb.heap.size):=fun wb hk=>⟨hxs.kept hk (fun _ _ h=>h),Nat.le_trans hJ.kept.size hk.size⟩
   clear hJ hxs hkj hlv kw JC
   have hkb:=TJ.out
   go_upto_region 5 with fail
   go_region_law (refine yT _ rfl (.tmp 32) (.tmp 41) 29 29 rfl w3.heap.size 148 i0 (.agg #[.string ⟨#[]⟩,.string ⟨#[]⟩]) 2 32 Tryz.underlying29 hi0 hz0 hz1 hz2 rfl (.slice va j vc) j xs (by simp [Act.eval]) (WO.out _ (by repeat (first|exact Kept.refl aA _|refine Kept.drew ?_|refine Kept.alloc ?_ _))).1 (.slice (some ⟨wr.heap.size,0,none⟩) 1 1) 1 [.string kj,.string lv] (by simp [Act.eval]) (Ju (g:=wr.heap.size) (vs:=[.string kj,.string lv]) (n:=1) Tryz.underlying29 2 rfl (ay wr _) (by intro u hu;simp at hu;rcases hu with rfl|rfl<;>rfl)) (by have:=TJ.out;unfold maxLen;omega) (by have:=TJ.out;omega) (WO.out _ (by repeat (first|exact Kept.refl aA _|refine Kept.drew ?_|refine Kept.alloc ?_ _))).2 ?_;intro a4 c4 w4 EZ hg4 Ht;obtain ⟨j_,d5,df⟩:=FN.out (by repeat (first|exact Kept.refl aA _|refine Kept.drew ?_|refine Kept.alloc ?_ _)) EZ hg4;have HJ4:=ah j_;clear EZ hg4 Ht j_)
   all_goals
    go_wp2_with fail
    go_roundw
    case rel=>exact ⟨j+1,_,by omega,by go_num,HJ4.out⟩
    case measure=>simp [intOf];omega
  ·obtain rfl:j=ks.length:=by omega
   obtain ⟨_,hI⟩:=JC.items
   have hrg:(Instr.range 95 (.map (some F.I))).run Tryz.prog wr=.ok (.pointer (some ⟨wr.heap.size,0,none⟩)) (wr.alloc (.mapIter (some F.I) 0 #[] 0)):=run_range_map wr 95 _ _ F.I #[] 0 Tryz.underlying95 hI
   obtain ⟨w5,hw5⟩:∃w5,w5=wr.alloc (.mapIter (some F.I) 0 #[] 0):=⟨_,rfl⟩
   have k5:Kept aA wr w5:=by rw [hw5];exact (Kept.refl aA wr).alloc _
   obtain ⟨G,hG⟩:∃G,G=wr.heap.size:=⟨_,rfl⟩
   have hit:w5.heap[G]?=some (.mapIter (some F.I) 0 #[] 0):=by rw [hw5,hG];exact ay wr _
   have hI5:w5.heap[F.I]?=some (.map #[] 0):=(k5.block F.I (Array.getElem?_eq_some_iff.1 hI).1 (fun h=>h)).trans hI
   have hnx:∀ty,(Instr.next (.pointer (some ⟨G,0,none⟩)) false ty).run Tryz.prog w5=.ok (.tuple #[.bool false]) w5:=fun ty=>by
    rcases run_next_at w5 ty G F.I 0 0 #[] #[] 0 hit hI5 (by simp) (by simp) with ⟨_,h⟩|⟨e,he,_⟩
    ·exact h
    ·exfalso;simp [leftOf] at he
   rw [←hw5,←hG] at hrg
   obtain ⟨xs,hxs⟩:=hJ.own
   obtain ⟨va,vc,hvv⟩:=hxs.shape
   subst hvv
   have KY:=ah (hJ.blk.kept k5 (fun h=>h))
   have k15:=kw.trans k5
   have H05:=ah (abo.out.kept k15 (fun h=>h))
   have K15:=ah k15
   clear hJ JC kw hI hit hI5 hw5 hG hxs k15
   go_wp2_with fail
   go_loopw [] (fun wx=>wx=w5) (fun _=>0)
   case atStart=>rfl
   case round =>
    subst hrel
    have x4:wr.cell? ⟨B,4,none⟩=some (.slice none 0 0):=KY.out.cell rfl
    go_wp2_with (go_at_call 75;(with_reducible refine (ah1 _ _).mono ?_);rintro e w6 ⟨rfl,k_⟩;have K6:=ah k_;have hb6:=KY.out.kept k_ (fun h=>h);have h06:=H05.out.kept k_ (fun h=>h);have H06:=ah h06;have y0:=hb6.cell (i:=0) rfl;have y1:=hb6.cell (i:=1) rfl;have y2:=hb6.cell (i:=2) rfl;have y3:=hb6.cell (i:=3) rfl;have y4:=hb6.cell (i:=4) rfl;have t0:=h06.cell (i:=0) rfl;have t1:=h06.cell (i:=1) rfl;have t2:=h06.cell (i:=2) rfl;have t3:=h06.cell (i:=3) rfl;have t4:=h06.cell (i:=4) rfl;have s0:=h06.free 0;have s1:=h06.free 1;have s2:=h06.free 2;have s3:=h06.free 3;have s4:=h06.free 4;clear k_ hb6 h06)
    have hf:=((((H06.out.set 0 (.slice a0 S.output.length c0)).set 1 (.int .i64 S.how)).set 2 (.int .i64 S.steps)).set 3 (.slice va ks.length vc)).set 4 (.slice none 0 0)
    have z0:=hf.cell (i:=0) rfl
    have z1:=hf.cell (i:=1) rfl
    have z2:=hf.cell (i:=2) rfl
    have z3:=hf.cell (i:=3) rfl
    have z4:=hf.cell (i:=4) rfl
    refine bodyPost_ret (v:=.agg #[.slice a0 S.output.length c0,.int .i64 S.how,.int .i64 S.steps,.slice va ks.length vc,.slice none 0 0]) (by simp only [results,Tryz.results39,go_sem,z0,z1,z2,z3,z4];simp [results,go_sem,z0,z1,z2,z3,z4]) rfl ⟨_,_,_,_,_,_,rfl,?_⟩
    have ajr:=(K1.out.trans K15.out).trans K6.out
    have NT:w.heap.size≤B0:=by rw [HB0.out];exact Nat.le_refl _
    exact (((((ajr.setCell (p:=⟨B0,0,none⟩) (.inr NT) _).setCell (p:=⟨B0,1,none⟩) (.inr NT) _).setCell (p:=⟨B0,2,none⟩) (.inr NT) _).setCell (p:=⟨B0,3,none⟩) (.inr NT) _).setCell (p:=⟨B0,4,none⟩) (.inr NT) _)
end Go.Proofs.YtgoijmpahffnhaaGreatDoor

namespace Go.Proofs.YtgoijmpahffnhaaGreatDoor
set_option linter.all false
open Go.RowKit
set_option maxRecDepth 100000
set_option maxHeartbeats 8000000
def afR (F:dF) (ov:Value) (S:aU) (w:World) (e:Ending) (w':World):Prop:=∃(a3 a4:Option Addr) (n3 c3 n4 c4:Nat) (hv:Value),e=.returned (.tuple #[.agg #[ov,.int .i64 S.how,.int .i64 S.steps,.slice a3 n3 c3,.slice a4 n4 c4],hv])∧Kept aA w w'
theorem XU (F:dF) (ov:Value) (S:aU) (w:World) (h:aZ F ov S w) (ok:bH S):Calls Tryz.prog 28 #[.pointer (some ⟨F.W,0,none⟩)] w (afR F ov S w):=by
 obtain ⟨a0,c0,hov⟩:=h.out.shape
 subst hov
 obtain ⟨w1,hw1⟩:∃w1,w1=w.alloc (.cells #[.slice none 0 0,.int .i64 0,.int .i64 0,.slice none 0 0,.slice none 0 0] 32):=⟨_,rfl⟩
 obtain ⟨B,hB⟩:∃B,B=w.heap.size:=⟨_,rfl⟩
 have k1:Kept aA w w1:=by rw [hw1];exact (Kept.refl aA w).alloc _
 have abo:Hid (dG B 32 [.slice none 0 0,.int .i64 0,.int .i64 0,.slice none 0 0,.slice none 0 0] w1):=by rw [hw1,hB];exact dG.new w _ _
 have h1:=h.quiet k1
 obtain ⟨u0,u2,u3,u4,uf⟩:=h1.pO
 have HR:Hid (∀wx,Kept (· = B) w1 wx→aZ F (.slice a0 S.output.length c0) S wx):=fun wx hk=>h1.kept hk (fun b hb=>by
  have hb:b=B:=hb
  subst hb
  exact ⟨by have:=h.pq.low;omega,fun e=>by have:=h.run.lt;omega,h.mine (by omega)⟩)
 have HS:Hid (∀wx,Kept (· = B) w1 wx→Calls Tryz.prog 39 #[.pointer (some ⟨F.O,0,none⟩),.int .i64 S.steps] wx (fun e w'=>∃(a3 a4:Option Addr) (n3 c3 n4 c4:Nat),e=.returned (.agg #[.slice a0 S.output.length c0,.int .i64 S.how,.int .i64 S.steps,.slice a3 n3 c3,.slice a4 n4 c4])∧Kept aA wx w')):=fun wx hk =>
  abn F _ S wx (HR.out wx hk) ok
 have HW1:=ah hw1;have HB:=ah hB;have K1:=ah k1
 clear h h1 k1 hw1 hB uf u0 u2 u3 u4
 go_enter Tryz.func28, Tryz.ntmps28
 go_upto_region 1 with fail
 rw [←HW1.out,←HB.out]
 clear HW1
 obtain ⟨Sp,hSp⟩:∃Sp:Nat→Value→World→Prop,Sp=(fun i v wx=>match i with
  | 0=>v=.pointer (some ⟨F.W,0,none⟩)
  | 1=>v=.pointer (some ⟨F.W,0,none⟩)
  | 2=>v=.pointer (some ⟨F.W,0,none⟩)
  | 3=>v=.pointer (some ⟨F.O,0,none⟩)
  | 4=>v=.pointer (some ⟨F.W,0,none⟩)
  | 5=>v=.pointer (some ⟨F.W,0,none⟩)
  | 6=>v=.pointer (some ⟨F.W,2,none⟩)
  | 7=>v=.int .i64 S.steps
  | 8=>∃(a3 a4:Option Addr) (n3 c3 n4 c4:Nat),v=.agg #[.slice a0 S.output.length c0,.int .i64 S.how,.int .i64 S.steps,.slice a3 n3 c3,.slice a4 n4 c4]
  | 9=>v=.pointer (some ⟨F.W,0,none⟩)
  | 10=>v=.pointer (some ⟨F.W,0,none⟩)
  | 11=>v=.pointer (some ⟨F.W,4,none⟩)
  | 12=>v=.slice (some ⟨F.H,0,none⟩) F.l.length F.l.length
  | 13=>True
  | _=>v=.slice (some ⟨F.H,0,none⟩) F.l.length F.l.length):=⟨_,rfl⟩
 obtain ⟨J,hJd⟩:∃J:(Nat→Bool)→(Nat→Value)→World→Prop,J=(fun l f wx=>(l 13=false→dG B 32 [.slice none 0 0,.int .i64 0,.int .i64 0,.slice none 0 0,.slice none 0 0] wx)∧(l 13=true→∃(a3 a4:Option Addr) (n3 c3 n4 c4:Nat),dG B 32 [.slice a0 S.output.length c0,.int .i64 S.how,.int .i64 S.steps,.slice a3 n3 c3,.slice a4 n4 c4] wx)):=⟨_,rfl⟩
 refine iV (· = B) J Sp [4,5,6,7,8,9,10,11,12,13,14,15,16,3] (by kernel_rfl) (by kernel_rfl) (by kernel_rfl) (fun i v w w' h hk=>by subst hSp;exact h) ?_ ?_ ?_ ?_
 ·intro i o hi lq x wy hI hJ hlf haft
  rw [hJd] at hJ
  have JK:=hI.kept
  have s0:x.eval (.tmp 0)=.pointer (some ⟨F.W,0,none⟩):=hI.keep 0 _ rfl (by kernel_rfl)
  have s2:x.eval (.tmp 2)=.pointer (some ⟨B,0,none⟩):=hI.keep 2 _ rfl (by kernel_rfl)
  obtain ⟨u0,u2,_,u4,_⟩:=(HR.out wy JK).pO
  have hjn:∀(l':Nat→Bool),(∀j,l' j=true↔j=i∨lq j=true)→i≠13→∀f,J l' f wy:=by
   intro l' hl hne f
   have e:=upd_ne hl 13 (Ne.symm hne)
   rw [hJd];show (l' 13=false→_)∧(l' 13=true→_)
   rw [e];exact hJ
  rcases i with _|_|_|_|_|_|_|_|_|_|_|_|_|_|_|i
  all_goals (simp only [List.getElem?_toArray,List.getElem?_cons_zero,List.getElem?_cons_succ,List.getElem?_nil,Option.some.injEq,reduceCtorEq] at hi)
  all_goals subst hi
  ·refine aV rfl ?_
   refine aK (v:=.pointer (some ⟨F.W,0,none⟩)) ?_ (by subst hSp;exact rfl) (fun l' hl=>hjn l' hl (by decide) _)
   simp only [execOp,resolve,invoke,List.map_toArray,List.map_cons,List.map_nil,s0];go_simp
  ·refine aV rfl ?_
   have d4:x.eval (.tmp 4)=.pointer (some ⟨F.W,0,none⟩):=by have h_:=hI.dep haft 0 4 rfl rfl rfl;rw [hSp] at h_;exact h_
   refine aK (v:=.pointer (some ⟨F.W,0,none⟩)) ?_ (by subst hSp;exact rfl) (fun l' hl=>hjn l' hl (by decide) _)
   simp only [execOp,resolve,invoke,List.map_toArray,List.map_cons,List.map_nil,d4];go_simp
  ·refine aV rfl ?_
   have d5:x.eval (.tmp 5)=.pointer (some ⟨F.W,0,none⟩):=by have h_:=hI.dep haft 1 5 rfl rfl rfl;rw [hSp] at h_;exact h_
   refine aK (v:=.pointer (some ⟨F.W,0,none⟩)) ?_ (by subst hSp;exact rfl) (fun l' hl=>hjn l' hl (by decide) _)
   simp only [execOp,resolve,invoke,List.map_toArray,List.map_cons,List.map_nil,d5];go_simp
  ·refine aV rfl ?_
   have d6:x.eval (.tmp 6)=.pointer (some ⟨F.W,0,none⟩):=by have h_:=hI.dep haft 2 6 rfl rfl rfl;rw [hSp] at h_;exact h_
   refine aK (v:=.pointer (some ⟨F.O,0,none⟩)) ?_ (by subst hSp;exact rfl) (fun l' hl=>hjn l' hl (by decide) _)
   simp only [execOp,resolve,invoke,List.map_toArray,List.map_cons,List.map_nil,d6];go_simp
  ·refine aV rfl ?_
   refine aK (v:=.pointer (some ⟨F.W,0,none⟩)) ?_ (by subst hSp;exact rfl) (fun l' hl=>hjn l' hl (by decide) _)
   simp only [execOp,resolve,invoke,List.map_toArray,List.map_cons,List.map_nil,s0];go_simp
  ·refine aV rfl ?_
   have d8:x.eval (.tmp 8)=.pointer (some ⟨F.W,0,none⟩):=by have h_:=hI.dep haft 4 8 rfl rfl rfl;rw [hSp] at h_;exact h_
   refine aK (v:=.pointer (some ⟨F.W,0,none⟩)) ?_ (by subst hSp;exact rfl) (fun l' hl=>hjn l' hl (by decide) _)
   simp only [execOp,resolve,invoke,List.map_toArray,List.map_cons,List.map_nil,d8];go_simp
  ·refine aV rfl ?_
   have d9:x.eval (.tmp 9)=.pointer (some ⟨F.W,0,none⟩):=by have h_:=hI.dep haft 5 9 rfl rfl rfl;rw [hSp] at h_;exact h_
   refine aK (v:=.pointer (some ⟨F.W,2,none⟩)) ?_ (by subst hSp;exact rfl) (fun l' hl=>hjn l' hl (by decide) _)
   simp only [execOp,resolve,invoke,List.map_toArray,List.map_cons,List.map_nil,d9];go_simp
  ·refine aV rfl ?_
   have d10:x.eval (.tmp 10)=.pointer (some ⟨F.W,2,none⟩):=by have h_:=hI.dep haft 6 10 rfl rfl rfl;rw [hSp] at h_;exact h_
   refine aK (v:=.int .i64 S.steps) ?_ (by subst hSp;exact rfl) (fun l' hl=>hjn l' hl (by decide) _)
   simp only [execOp,resolve,invoke,List.map_toArray,List.map_cons,List.map_nil,d10];go_simp
  ·refine aV rfl ?_
   have d7:x.eval (.tmp 7)=.pointer (some ⟨F.O,0,none⟩):=by have h_:=hI.dep haft 3 7 rfl rfl rfl;rw [hSp] at h_;exact h_
   have d11:x.eval (.tmp 11)=.int .i64 S.steps:=by have h_:=hI.dep haft 7 11 rfl rfl rfl;rw [hSp] at h_;exact h_
   refine AQ (f:=39) (args:=#[.pointer (some ⟨F.O,0,none⟩),.int .i64 S.steps]) (by simp only [execOp,resolve,invoke,List.map_toArray,List.map_cons,List.map_nil,d7,d11];go_simp) ((HS.out _ JK).mono ?_)
   rintro e w4 ⟨a3,a4,n3,c3,n4,c4,rfl,k_⟩
   refine ⟨_,rfl,by subst hSp;exact ⟨a3,a4,n3,c3,n4,c4,rfl⟩,k_.more (fun _ h=>h.elim),fun l' hl=>?_⟩
   rw [hJd];show (l' 13=false→_)∧(l' 13=true→_)
   rw [upd_ne hl 13 (by decide)]
   exact ⟨fun e=>(hJ.1 e).kept k_ (fun h=>h),fun e=>by obtain ⟨b3,b4,m3,d3,m4,d4,hb⟩:=hJ.2 e;exact ⟨b3,b4,m3,d3,m4,d4,hb.kept k_ (fun h=>h)⟩⟩
  ·refine aV rfl ?_
   refine aK (v:=.pointer (some ⟨F.W,0,none⟩)) ?_ (by subst hSp;exact rfl) (fun l' hl=>hjn l' hl (by decide) _)
   simp only [execOp,resolve,invoke,List.map_toArray,List.map_cons,List.map_nil,s0];go_simp
  ·refine aV rfl ?_
   have d13:x.eval (.tmp 13)=.pointer (some ⟨F.W,0,none⟩):=by have h_:=hI.dep haft 9 13 rfl rfl rfl;rw [hSp] at h_;exact h_
   refine aK (v:=.pointer (some ⟨F.W,0,none⟩)) ?_ (by subst hSp;exact rfl) (fun l' hl=>hjn l' hl (by decide) _)
   simp only [execOp,resolve,invoke,List.map_toArray,List.map_cons,List.map_nil,d13];go_simp
  ·refine aV rfl ?_
   have XV:x.eval (.tmp 14)=.pointer (some ⟨F.W,0,none⟩):=by have h_:=hI.dep haft 10 14 rfl rfl rfl;rw [hSp] at h_;exact h_
   refine aK (v:=.pointer (some ⟨F.W,4,none⟩)) ?_ (by subst hSp;exact rfl) (fun l' hl=>hjn l' hl (by decide) _)
   simp only [execOp,resolve,invoke,List.map_toArray,List.map_cons,List.map_nil,XV];go_simp
  ·refine aV rfl ?_
   have d15:x.eval (.tmp 15)=.pointer (some ⟨F.W,4,none⟩):=by have h_:=hI.dep haft 11 15 rfl rfl rfl;rw [hSp] at h_;exact h_
   refine aK (v:=.slice (some ⟨F.H,0,none⟩) F.l.length F.l.length) ?_ (by subst hSp;exact rfl) (fun l' hl=>hjn l' hl (by decide) _)
   simp only [execOp,resolve,invoke,List.map_toArray,List.map_cons,List.map_nil,d15];go_simp
  ·refine aV rfl ?_
   obtain ⟨a3,a4,n3,c3,n4,c4,d12⟩:∃(a3 a4:Option Addr) (n3 c3 n4 c4:Nat),x.eval (.tmp 12)=.agg #[.slice a0 S.output.length c0,.int .i64 S.how,.int .i64 S.steps,.slice a3 n3 c3,.slice a4 n4 c4]:=by have h_:=hI.dep haft 8 12 rfl rfl rfl;rw [hSp] at h_;exact h_
   have hz:=hJ.1 hlf
   have x0:=hz.cell (i:=0) rfl;have y0:=hz.free 0
   have x1:=hz.cell (i:=1) rfl;have y1:=hz.free 1
   have x2:=hz.cell (i:=2) rfl;have y2:=hz.free 2
   have x3:=hz.cell (i:=3) rfl;have y3:=hz.free 3
   have x4:=hz.cell (i:=4) rfl;have y4:=hz.free 4
   refine iy (w':=((((wy.setCell ⟨B,0,none⟩ (.slice a0 S.output.length c0)).setCell ⟨B,1,none⟩ (.int .i64 S.how)).setCell ⟨B,2,none⟩ (.int .i64 S.steps)).setCell ⟨B,3,none⟩ (.slice a3 n3 c3)).setCell ⟨B,4,none⟩ (.slice a4 n4 c4)) ?_ rfl (((((((Kept.refl (· = B) wy).setCell (p:=⟨B,0,none⟩) (.inl rfl) _).setCell (p:=⟨B,1,none⟩) (.inl rfl) _).setCell (p:=⟨B,2,none⟩) (.inl rfl) _).setCell (p:=⟨B,3,none⟩) (.inl rfl) _).setCell (p:=⟨B,4,none⟩) (.inl rfl) _)) (fun l' hl=>?_)
   ·simp only [execOp,resolve,invoke,List.map_toArray,List.map_cons,List.map_nil,s2,d12];go_simp
   ·rw [hJd];exact ⟨fun e=>(by rw [iC hl] at e;cases e),fun _=>⟨a3,a4,n3,c3,n4,c4,((((hz.set 0 _).set 1 _).set 2 _).set 3 _).set 4 _⟩⟩
  ·refine aV rfl ?_
   have d16:x.eval (.tmp 16)=.slice (some ⟨F.H,0,none⟩) F.l.length F.l.length:=by have h_:=hI.dep haft 12 16 rfl rfl rfl;rw [hSp] at h_;exact h_
   refine aK (v:=.slice (some ⟨F.H,0,none⟩) F.l.length F.l.length) ?_ (by subst hSp;exact rfl) (fun l' hl=>hjn l' hl (by decide) _)
   simp only [execOp,resolve,invoke,List.map_toArray,List.map_cons,List.map_nil,d16];go_simp
 ·intro lq hl
  rw [hJd];exact ⟨fun _=>abo.out.kept (Kept.refl aA _).drew (fun h=>h),fun e=>by rw [hl 13 (by decide)] at e;cases e⟩
 ·intro lq l' f wx hl h
  rw [hJd] at h⊢;dsimp only at h⊢;rw [←hl 13 (by decide)];exact h
 ·intro f wy hK hS hJ
  rw [hJd] at hJ
  obtain ⟨a3,a4,n3,c3,n4,c4,hb⟩:=hJ.2 rfl
  simp only [gV,List.foldl_cons,List.foldl_nil,List.setIfInBounds_toArray,List.set_cons_zero,List.set_cons_succ]
  have e3:f 3=.slice (some ⟨F.H,0,none⟩) F.l.length F.l.length:=by have h_:=hS 14 _ _ rfl rfl;rw [hSp] at h_;exact h_
  rw [e3]
  go_wp2_with fail
  have z0:=hb.cell (i:=0) rfl
  have z1:=hb.cell (i:=1) rfl
  have z2:=hb.cell (i:=2) rfl
  have z3:=hb.cell (i:=3) rfl
  have z4:=hb.cell (i:=4) rfl
  refine bodyPost_ret (v:=.tuple #[.agg #[.slice a0 S.output.length c0,.int .i64 S.how,.int .i64 S.steps,.slice a3 n3 c3,.slice a4 n4 c4],.slice (some ⟨F.H,0,none⟩) F.l.length F.l.length]) (by simp [results,Tryz.results28,go_sem,z0,z1,z2,z3,z4]) rfl ⟨a3,a4,n3,c3,n4,c4,_,rfl,K1.out.step hK (fun y hy=>.inr (by have:y=B:=hy;rw [this,HB.out];exact Nat.le_refl _))⟩
end Go.Proofs.YtgoijmpahffnhaaGreatDoor

namespace Go.Proofs.YtgoijmpahffnhaaGreatDoor
set_option linter.all false
open Go.RowKit
set_option maxRecDepth 100000
set_option maxHeartbeats 2000000
theorem abq:(Tryz.prog.info? 3).map (fun i=>(i.zero,i.size,i.bytes))=some (some (.int .i64 0),1,8):=by kernel_rfl
def uY (B:Nat) (ia:Option Addr) (inn ic O:Nat) (w:World):Prop :=
 ∃V I,B≤V∧B≤I∧B≤O∧V≠I∧dG O 97 [.map (some V),.map (some I),.int .i64 0,.int .i64 0,.slice none 0 0,.slice ia inn ic,.int .i64 0] w∧w.heap[V]?=some (.map #[] 0)∧w.heap[I]?=some (.map #[] 0)
theorem uY.kept {B:Nat} {ia:Option Addr} {inn ic O:Nat} {w w':World} (h:uY B ia inn ic O w) (hk:Kept aA w w'):uY B ia inn ic O w':=by
 obtain ⟨V,I,h1,h2,h3,h4,h5,h6,h7⟩:=h
 exact ⟨V,I,h1,h2,h3,h4,h5.kept hk (fun h=>h),(hk.block V (Array.getElem?_eq_some_iff.1 h6).1 (fun h=>h)).trans h6,(hk.block I (Array.getElem?_eq_some_iff.1 h7).1 (fun h=>h)).trans h7⟩
theorem uY.low {B B':Nat} {ia:Option Addr} {inn ic O:Nat} {w:World} (h:uY B' ia inn ic O w) (hb:B≤B'):uY B ia inn ic O w:=by
 obtain ⟨V,I,h1,h2,h3,h4⟩:=h
 exact ⟨V,I,by omega,by omega,by omega,h4⟩
def tZ (B n H:Nat) (w:World):Prop:=B≤H∧dG H 3 (List.replicate n (.int .i64 0)) w
theorem tZ.kept {B n H:Nat} {w w':World} (h:tZ B n H w) (hk:Kept aA w w'):tZ B n H w':=⟨h.1,h.2.kept hk (fun h=>h)⟩
theorem tZ.low {B B' n H:Nat} {w:World} (h:tZ B' n H w) (hb:B≤B'):tZ B n H w:=⟨Nat.le_trans hb h.1,h.2⟩
theorem tZ.new (w:World) (n:Nat):tZ w.heap.size n w.heap.size (w.alloc (.cells (madeCells #[.int .i64 0] n) 3)):=by
 refine ⟨Nat.le_refl _,?_⟩
 have e:madeCells #[Value.int .i64 0] n=(List.replicate n (Value.int .i64 0)).toArray:=by
  rw [←toList_madeCells_one (Value.int .i64 0) n]
 rw [e]
 exact dG.new w _ _
def AU (B:Nat) (ia:Option Addr) (inn ic n lim W:Nat) (w:World):Prop :=
 B≤W∧∃O Ru H,dG W 90 [.pointer (some ⟨O,0,none⟩),.map (some Ru),.int .i64 0,.int .i64 lim,.slice (some ⟨H,0,none⟩) n n] w∧uY B ia inn ic O w∧tZ B n H w
theorem AU.kept {B:Nat} {ia:Option Addr} {inn ic n lim W:Nat} {w w':World} (h:AU B ia inn ic n lim W w) (hk:Kept aA w w'):AU B ia inn ic n lim W w':=by
 obtain ⟨h0,O,Ru,H,h1,h2,h3⟩:=h
 exact ⟨h0,O,Ru,H,h1.kept hk (fun h=>h),h2.kept hk,h3.kept hk⟩
theorem NU (ia:Option Addr) (inn ic:Nat) (w:World):Calls Tryz.prog 36 #[.slice ia inn ic] w (fun e w'=>e=.returned (.pointer (some ⟨w.heap.size+2,0,none⟩))∧uY w.heap.size ia inn ic (w.heap.size+2) w'∧Kept aA w w'):=by
 obtain ⟨w1,hw1⟩:∃w1,w1=w.alloc (.map #[] 0):=⟨_,rfl⟩
 obtain ⟨w2,hw2⟩:∃w2,w2=w1.alloc (.map #[] 0):=⟨_,rfl⟩
 have z1:w1.heap.size=w.heap.size+1:=by rw [hw1];simp
 have z2:w2.heap.size=w.heap.size+2:=by rw [hw2];simp [z1]
 have k1:Kept aA w w1:=by rw [hw1];exact (Kept.refl aA w).alloc _
 have k2:Kept aA w1 w2:=by rw [hw2];exact (Kept.refl aA w1).alloc _
 have m1:w1.heap[w.heap.size]?=some (.map #[] 0):=by rw [hw1];exact ay w _
 have m2:w2.heap[w.heap.size+1]?=some (.map #[] 0):=by rw [hw2,←z1];exact ay w1 _
 have m1':w2.heap[w.heap.size]?=some (.map #[] 0):=(k2.block _ (by omega) (fun h=>h)).trans m1
 have hb:=dG.new w2 97 [.map (some w.heap.size),.map (some (w.heap.size+1)),.int .i64 0,.int .i64 0,.slice none 0 0,.slice ia inn ic,.int .i64 0]
 rw [z2] at hb
 have k3:=(Kept.refl aA w2).alloc (.cells [Value.map (some w.heap.size),.map (some (w.heap.size+1)),.int .i64 0,.int .i64 0,.slice none 0 0,.slice ia inn ic,.int .i64 0].toArray 97)
 have HN:Hid (uY w.heap.size ia inn ic (w.heap.size+2) (w2.alloc (.cells #[.map (some w.heap.size),.map (some (w.heap.size+1)),.int .i64 0,.int .i64 0,.slice none 0 0,.slice ia inn ic,.int .i64 0] 97))∧Kept aA w (w2.alloc (.cells #[.map (some w.heap.size),.map (some (w.heap.size+1)),.int .i64 0,.int .i64 0,.slice none 0 0,.slice ia inn ic,.int .i64 0] 97))) :=
  ⟨⟨w.heap.size,w.heap.size+1,Nat.le_refl _,by omega,by omega,by omega,hb,(k3.block _ (by omega) (fun h=>h)).trans m1',(k3.block _ (by omega) (fun h=>h)).trans m2⟩,(k1.trans k2).trans k3⟩
 rw [hw2,hw1] at HN
 clear hw1 hw2 z1 z2 k1 k2 m1 m2 m1' hb k3
 have hmm :=@run_makeMap Tryz.prog
 go_enter Tryz.func36, Tryz.ntmps36
 go_wp2_with fail
 go_ret
 exact ⟨rfl,HN.out⟩
theorem NV (al ia:Option Addr) (n cl inn ic lim:Nat) (w:World) (hn:n≤1000000):Calls Tryz.prog 26 #[.slice al n cl,.slice ia inn ic,.int .i64 lim] w (fun e w'=>∃W,e=.returned (.pointer (some ⟨W,0,none⟩))∧AU w.heap.size ia inn ic n lim W w'∧Kept aA w w'):=by
 go_enter Tryz.func26, Tryz.ntmps26
 go_upto_region 1 with fail
 obtain ⟨Sp,hSp⟩:∃Sp:Nat→Value→World→Prop,Sp=(fun i v wx=>match i with
  | 0=>v=.slice ia inn ic
  | 1=>∃O,v=.pointer (some ⟨O,0,none⟩)∧uY w.heap.size ia inn ic O wx
  | 2=>∃Ru,v=.map (some Ru)
  | 3=>v=.int .i64 lim
  | 4=>v=.slice al n cl
  | 5=>v=.int .i64 n
  | 6=>∃H,v=.slice (some ⟨H,0,none⟩) n n∧tZ w.heap.size n H wx
  | 7=>∃O Ru H,v=.agg #[.pointer (some ⟨O,0,none⟩),.map (some Ru),.int .i64 0,.int .i64 lim,.slice (some ⟨H,0,none⟩) n n]∧uY w.heap.size ia inn ic O wx∧tZ w.heap.size n H wx
  | 8=>∃W,v=.pointer (some ⟨W,0,none⟩)∧AU w.heap.size ia inn ic n lim W wx
  | _=>∃W,v=.pointer (some ⟨W,0,none⟩)∧AU w.heap.size ia inn ic n lim W wx):=⟨_,rfl⟩
 obtain ⟨J,HJ⟩:∃J:(Nat→Bool)→(Nat→Value)→World→Prop,∀l f w,J l f w:=⟨fun _ _ _=>True,fun _ _ _=>trivial⟩
 have ah2:∀i v w w',Sp i v w→Kept aA w w'→Sp i v w':=by
  intro i v w w' h hk
  subst hSp
  rcases i with _|_|_|_|_|_|_|_|_|i
  ·exact h
  ·obtain ⟨O,e,s⟩:=h;exact ⟨O,e,s.kept hk⟩
  ·exact h
  ·exact h
  ·exact h
  ·exact h
  ·obtain ⟨H,e,s⟩:=h;exact ⟨H,e,s.kept hk⟩
  ·obtain ⟨O,Ru,H,e,s,t⟩:=h;exact ⟨O,Ru,H,e,s.kept hk,t.kept hk⟩
  ·obtain ⟨W,e,s⟩:=h;exact ⟨W,e,s.kept hk⟩
  ·obtain ⟨W,e,s⟩:=h;exact ⟨W,e,s.kept hk⟩
 refine iV aA J Sp [7,8,9,10,11,12,13,14,15,6] (by kernel_rfl) (by kernel_rfl) (by kernel_rfl) ah2 ?_ (fun _ _=>HJ _ _ _) (fun _ _ _ _ _ _=>HJ _ _ _) ?_
 ·intro i o hi lq x wy hI _ hlf haft
  have JK:=hI.kept.size
  have s0:x.eval (.tmp 0)=.slice al n cl:=hI.keep 0 _ rfl (by kernel_rfl)
  have s1:x.eval (.tmp 1)=.slice ia inn ic:=hI.keep 1 _ rfl (by kernel_rfl)
  have s2:x.eval (.tmp 2)=.int .i64 lim:=hI.keep 2 _ rfl (by kernel_rfl)
  rcases i with _|_|_|_|_|_|_|_|_|_|i
  all_goals (simp only [List.getElem?_toArray,List.getElem?_cons_zero,List.getElem?_cons_succ,List.getElem?_nil,Option.some.injEq,reduceCtorEq] at hi)
  all_goals subst hi
  ·refine aV rfl ?_
   refine aK (v:=.slice ia inn ic) ?_ (by subst hSp;exact rfl) (fun _ _=>HJ _ _ _)
   simp only [execOp,resolve,invoke,List.map_toArray,List.map_cons,List.map_nil,s1];go_simp
  ·refine aV rfl ?_
   have d7:x.eval (.tmp 7)=.slice ia inn ic:=by have h_:=hI.dep haft 0 7 rfl rfl rfl;rw [hSp] at h_;exact h_
   refine AQ (f:=36) (args:=#[.slice ia inn ic]) (by simp only [execOp,resolve,invoke,List.map_toArray,List.map_cons,List.map_nil,d7];go_simp) ((NU ia inn ic wy).mono ?_)
   rintro e w4 ⟨rfl,hs_,k_⟩
   exact ⟨_,rfl,by subst hSp;exact ⟨_,rfl,hs_.low JK⟩,k_,fun _ _=>HJ _ _ _⟩
  ·refine aV rfl ?_
   refine Aa (w':=wy.alloc (.map #[] 0)) (v:=.map (some wy.heap.size)) ?_ (by subst hSp;exact ⟨_,rfl⟩) ((Kept.refl aA wy).alloc _) (fun _ _=>HJ _ _ _)
   simp only [execOp,resolve,invoke,List.map_toArray,List.map_cons,List.map_nil,Sem.run_bind,run_makeMap,Result.andThen_ok,Sem.run_pure,Option.map_none];try rfl
  ·refine aV rfl ?_
   refine aK (v:=.int .i64 lim) ?_ (by subst hSp;exact rfl) (fun _ _=>HJ _ _ _)
   simp only [execOp,resolve,invoke,List.map_toArray,List.map_cons,List.map_nil,s2];go_simp
  ·refine aV rfl ?_
   refine aK (v:=.slice al n cl) ?_ (by subst hSp;exact rfl) (fun _ _=>HJ _ _ _)
   simp only [execOp,resolve,invoke,List.map_toArray,List.map_cons,List.map_nil,s0];go_simp
  ·refine aV rfl ?_
   have d11:x.eval (.tmp 11)=.slice al n cl:=by have h_:=hI.dep haft 4 11 rfl rfl rfl;rw [hSp] at h_;exact h_
   refine aK (v:=.int .i64 n) ?_ (by subst hSp;exact rfl) (fun _ _=>HJ _ _ _)
   simp only [execOp,resolve,invoke,List.map_toArray,List.map_cons,List.map_nil,d11];go_simp
  ·refine aV rfl ?_
   have d12:x.eval (.tmp 12)=.int .i64 n:=by have h_:=hI.dep haft 5 12 rfl rfl rfl;rw [hSp] at h_;exact h_
   have hmk:=run_make_row' (P:=Tryz.prog) 42 3 (.int .i64 0) 8 Tryz.underlying42 abq rfl .i64 .i64 n (by omega) (by omega) wy
   refine Aa (w':=wy.alloc (.cells (madeCells #[.int .i64 0] n) 3)) (v:=.slice (some ⟨wy.heap.size,0,none⟩) n n) ?_ (by subst hSp;exact ⟨_,rfl,(tZ.new wy n).low JK⟩) ((Kept.refl aA wy).alloc _) (fun _ _=>HJ _ _ _)
   simp only [execOp,resolve,invoke,List.map_toArray,List.map_cons,List.map_nil,d12,Sem.run_bind,hmk,Result.andThen_ok,Sem.run_pure]
  ·refine aV rfl ?_
   obtain ⟨O,d8,hO⟩:∃O,x.eval (.tmp 8)=.pointer (some ⟨O,0,none⟩)∧uY w.heap.size ia inn ic O wy:=by have h_:=hI.dep haft 1 8 rfl rfl rfl;rw [hSp] at h_;exact h_
   obtain ⟨Ru,d9⟩:∃Ru,x.eval (.tmp 9)=.map (some Ru):=by have h_:=hI.dep haft 2 9 rfl rfl rfl;rw [hSp] at h_;exact h_
   have d10:x.eval (.tmp 10)=.int .i64 lim:=by have h_:=hI.dep haft 3 10 rfl rfl rfl;rw [hSp] at h_;exact h_
   obtain ⟨H,d13,hH⟩:∃H,x.eval (.tmp 13)=.slice (some ⟨H,0,none⟩) n n∧tZ w.heap.size n H wy:=by have h_:=hI.dep haft 6 13 rfl rfl rfl;rw [hSp] at h_;exact h_
   refine aK (v:=.agg #[.pointer (some ⟨O,0,none⟩),.map (some Ru),.int .i64 0,.int .i64 lim,.slice (some ⟨H,0,none⟩) n n]) ?_ (by subst hSp;exact ⟨O,Ru,H,rfl,hO,hH⟩) (fun _ _=>HJ _ _ _)
   simp only [execOp,resolve,invoke,List.map_toArray,List.map_cons,List.map_nil,d8,d9,d10,d13];go_simp
  ·refine aV rfl ?_
   obtain ⟨O,Ru,H,XV,hO,hH⟩:∃O Ru H,x.eval (.tmp 14)=.agg #[.pointer (some ⟨O,0,none⟩),.map (some Ru),.int .i64 0,.int .i64 lim,.slice (some ⟨H,0,none⟩) n n]∧uY w.heap.size ia inn ic O wy∧tZ w.heap.size n H wy:=by have h_:=hI.dep haft 7 14 rfl rfl rfl;rw [hSp] at h_;exact h_
   refine Aa (w':=wy.alloc (.cells #[.pointer (some ⟨O,0,none⟩),.map (some Ru),.int .i64 0,.int .i64 lim,.slice (some ⟨H,0,none⟩) n n] 90)) (v:=.pointer (some ⟨wy.heap.size,0,none⟩)) ?_ (by subst hSp;exact ⟨_,rfl,JK,O,Ru,H,dG.new wy _ _,hO.kept ((Kept.refl aA wy).alloc _),hH.kept ((Kept.refl aA wy).alloc _)⟩) ((Kept.refl aA wy).alloc _) (fun _ _=>HJ _ _ _)
   simp only [execOp,resolve,invoke,List.map_toArray,List.map_cons,List.map_nil,XV];go_simp
  ·refine aV rfl ?_
   obtain ⟨W,d15,hW⟩:∃W,x.eval (.tmp 15)=.pointer (some ⟨W,0,none⟩)∧AU w.heap.size ia inn ic n lim W wy:=by have h_:=hI.dep haft 8 15 rfl rfl rfl;rw [hSp] at h_;exact h_
   refine aK (v:=.pointer (some ⟨W,0,none⟩)) ?_ (by subst hSp;exact ⟨W,rfl,hW⟩) (fun _ _=>HJ _ _ _)
   simp only [execOp,resolve,invoke,List.map_toArray,List.map_cons,List.map_nil,d15];go_simp
 ·intro f wy hK hS _
  obtain ⟨W,e6,hW⟩:∃W,f 6=.pointer (some ⟨W,0,none⟩)∧AU w.heap.size ia inn ic n lim W wy:=by have h_:=hS 9 _ _ rfl rfl;rw [hSp] at h_;exact h_
  simp only [gV,List.foldl_cons,List.foldl_nil,List.setIfInBounds_toArray,List.set_cons_zero,List.set_cons_succ]
  rw [e6]
  go_wp2_with fail
  go_ret
  exact ⟨W,rfl,hW,hK⟩
end Go.Proofs.YtgoijmpahffnhaaGreatDoor

namespace Go.Proofs.YtgoijmpahffnhaaGreatDoor
set_option linter.all false
open Go.RowKit
set_option maxRecDepth 100000
set_option maxHeartbeats 4000000
def pU (input:List aj):Prop:=1000<input.length∨∃i,∃h:i<input.length,65536<input[i].size
def WrQ (l:List aF) (input:List aj) (w:World) (e:Ending) (w':World):Prop :=
 Kept aA w w'∧((pU input∧∃a b:Int,a≠0∧e=.returned (.tuple #[.pointer none,.agg #[.int .i64 a,.int .i64 b]]))∨
  (¬pU input∧∃p,e=.returned (.tuple #[.pointer p,.agg #[.int .i64 0,.int .i64 0]])∧qN l w.heap.size p w'))
theorem NW {f:Func} {tmps:Array Value} {l:List aF} {input:List aj} {w w2:World} {M:Nat} {a b:Int} {p:Option Addr} (hf:f.results = #[.tmp 6,.cell 7 39]) (h6:tmps.getD 6 undef=.pointer p) (h7:tmps.getD 7 undef=.pointer (some ⟨M,0,none⟩)) (hM:Fl M a b w2)
  (hk:Kept aA w w2) (hq:(pU input∧a≠0∧p=none)∨(¬pU input∧a=0∧b=0∧qN l w.heap.size p w2)):bodyPost Tryz.prog f (WrQ l input w) .ret ⟨tmps,[]⟩ w2:=by
 obtain ⟨c0,c1,_,_⟩:=hM.cells
 have ht6:tmps[6]?.getD undef=.pointer p:=by rw [←h6,Array.getD_eq_getD_getElem?]
 have ht7:tmps[7]?.getD undef=.pointer (some ⟨M,0,none⟩):=by rw [←h7,Array.getD_eq_getD_getElem?]
 refine bodyPost_ret (v:=.tuple #[.pointer p,.agg #[.int .i64 a,.int .i64 b]]) (by simp [results,hf,go_sem,ht6,ht7,c0,c1]) rfl ⟨hk,?_⟩
 rcases hq with ⟨h1,h2,rfl⟩|⟨h1,rfl,rfl,h4⟩
 ·exact .inl ⟨h1,a,b,h2,rfl⟩
 ·exact .inr ⟨h1,p,rfl,h4⟩
theorem qN.kept {l:List aF} {B:Nat} {p:Option Addr} {w w':World} {X:Nat→Prop} (h:qN l B p w) (hk:Kept X w w') (hx:∀b,X b→¬B≤b∨w.heap.size≤b):qN l B p w':=by
 obtain ⟨T,B1,B2,n1,n2,rfl,h1,h2,h3,h4,h5,h6⟩:=h
 have no:∀b,B≤b→b<w.heap.size→¬X b:=fun b hb hl hc=>(hx b hc).elim (fun h=>h hb) (fun h=>by omega)
 exact ⟨T,B1,B2,n1,n2,rfl,h1.kept hk (no _ h4 h1.lt),h2.kept hk (no _ h5 h2.lt),h3.kept hk (no _ h6 h3.lt),h4,h5,h6⟩
theorem qN.low {l:List aF} {B B':Nat} {p:Option Addr} {w:World} (h:qN l B' p w) (hb:B≤B'):qN l B p w:=by
 obtain ⟨T,B1,B2,n1,n2,rfl,h1,h2,h3,h4,h5,h6⟩:=h
 exact ⟨T,B1,B2,n1,n2,rfl,h1,h2,h3,by omega,by omega,by omega⟩
theorem XW (l:List aF) (al:Option Addr) (cl:Nat) (S:Nat→Prop) (input:List aj) (ia:Option Addr) (ic lim:Nat) (w:World) (hl:oh w S al l) (hS:Safe S aA w.heap.size) (hlen:l.length≤1048576) (hck:bY l=(0,0)) (hin:aQ w (· < w.heap.size) ia input) (hil:input.length<1000000000) (hlim:lim≤100000) :
  Calls Tryz.prog 25 #[.slice al l.length cl,.slice ia input.length ic,.int .i64 lim] w (WrQ l input w):=by
 obtain ⟨w1,hw1⟩:∃w1,w1=w.alloc (.cells #[.int .i64 0,.int .i64 0] 39):=⟨_,rfl⟩
 have k1:Kept aA w w1:=by rw [hw1];exact (Kept.refl aA w).alloc _
 have F1:Hid (Fl w.heap.size 0 0 w1):=by rw [hw1];exact ay w _
 obtain ⟨M,hM⟩:∃M,M=w.heap.size:=⟨_,rfl⟩
 rw [←hM] at F1
 have HP:=QO l al cl S w1 (hl.to k1 hS (fun _ h=>h)) (hS.mono k1.size) hlen
 have hz1:w1.heap.size=w.heap.size+1:=by rw [hw1];simp
 have HP:Hid (Calls Tryz.prog 35 #[.slice al l.length cl] w1 (fun e w'=>∃p,e=.returned (.tuple #[.pointer p,.agg #[.int .i64 0,.int .i64 0]])∧Kept aA w1 w'∧qN l (w.heap.size+1) p w')):=HP.mono (by
  rintro e w' ⟨p,rfl,hk,ht,_⟩
  rw [hck] at ht⊢
  exact ⟨p,rfl,hk,hz1 ▸ ht rfl⟩)
 have jL:Hid (∀wx,Kept aA w wx→aQ wx (· < wx.heap.size) ia input):=fun wx hk=>hin.to hk (Safe.lt (Nat.le_refl _)) (fun _ h=>Nat.lt_of_lt_of_le h hk.size)
 have HW1:=ah hw1;have HM:=ah hM;have K1:=ah k1
 have hlm:M<w1.heap.size:=F1.out.lt
 clear hl hS hck hin k1 hw1 hM hz1
 go_enter Tryz.func25, Tryz.ntmps25
 go_upto_region 1 with fail
 rw [←HW1.out,←HM.out]
 clear HW1
 go_upto_region 2 with (go_at_call 35;(with_reducible refine HP.out.mono ?_);rintro e w2 ⟨p,rfl,k_,t_⟩;have K2:=ah k_;have T2:=ah t_;have F2:=ah (F1.out.kept k_ (fun h=>h));clear k_ t_)
 obtain ⟨w3,hw3⟩:∃w3,w3=w2.alloc (.cells #[.int .i64 0,.int .i64 0] 39):=⟨_,rfl⟩
 obtain ⟨G,hG⟩:∃G,G=w2.heap.size:=⟨_,rfl⟩
 have k3:Kept aA w2 w3:=by rw [hw3];exact (Kept.refl aA w2).alloc _
 have G3:Hid (Fl G 0 0 w3):=by rw [hw3,hG];exact ay w2 _
 have F3:=ah (F2.out.kept k3 (fun h=>h))
 have T4:=ah (T2.out.kept k3 (fun _ h=>h.elim))
 have K3:Hid (Kept aA w w3):=(K1.out.trans K2.out).trans k3
 rw [←hw3,←hG]
 obtain ⟨g0,g1,gf0,gf1⟩:=G3.out.cells
 obtain ⟨f0,f1,ff0,ff1⟩:=F3.out.cells
 have hMw:w.heap.size≤M:=by rw [HM.out];exact Nat.le_refl _
 have KS:Hid (∀wx (a b:Int),Kept aA w3 wx→Kept aA w ((wx.setCell ⟨M,0,none⟩ (.int .i64 a)).setCell ⟨M,1,none⟩ (.int .i64 b))∧Fl M a b ((wx.setCell ⟨M,0,none⟩ (.int .i64 a)).setCell ⟨M,1,none⟩ (.int .i64 b))):=fun wx a b hk =>
  ⟨((K3.out.trans hk).setCell (p:=⟨M,0,none⟩) (.inr hMw) _).setCell (p:=⟨M,1,none⟩) (.inr hMw) _,(F3.out.kept hk (fun h=>h)).set a b⟩
 have TS:Hid (∀wx (a b:Int),Kept aA w3 wx→qN l w.heap.size p ((wx.setCell ⟨M,0,none⟩ (.int .i64 a)).setCell ⟨M,1,none⟩ (.int .i64 b))):=fun wx a b hk=>by
  have hT:qN l (w.heap.size+1) p w3:=T4.out
  have:=(hT.kept hk (fun _ h=>h.elim)).kept (((Kept.refl (· = M) wx).setCell (p:=⟨M,0,none⟩) (.inl rfl) (.int .i64 a)).setCell (p:=⟨M,1,none⟩) (.inl rfl) (.int .i64 b)) (fun b hb=>.inl (by have:b=M:=hb;rw [this,HM.out];omega))
  exact this.low (by omega)
 clear hw3 hG k3
 by_cases hb:1000<input.length
 ·have e1:decide ((1000:Int)<(input.length:Int))=true:=ak (by omega)
  have e1':decide (1000<input.length)=true:=ak hb
  go_wp2_with fail
  exact NW Tryz.results25 rfl rfl (KS.out _ 5 0 (Kept.refl _ _)).2 (KS.out _ 5 0 (Kept.refl _ _)).1 (.inl ⟨.inl hb,by decide,rfl⟩)
 have e1:decide ((1000:Int)<(input.length:Int))=false:=au (by omega)
 have e1':decide (1000<input.length)=false:=au hb
 go_wp2_with fail
 go_loopw [27] (fun i wr=>∃j:Nat,j≤input.length∧i=.int .i64 j∧wr=w3∧Hid (∀k,(h:k<input.length)→k<j→input[k].size≤65536)) (fun i _=>input.length-(intOf i).toNat)
 case atStart=>exact ⟨0,Nat.zero_le _,rfl,rfl,fun k _ h=>absurd h (by omega)⟩
 case round =>
  obtain ⟨j,hj,rfl,rfl,hall⟩:=hrel
  by_cases hlt:j<input.length
  ·obtain ⟨bi,oi,rfl,_,hc⟩:=jL.out _ K3.out (by omega)
   have cj:=hc j hlt
   obtain ⟨tj,htj⟩:∃tj,tj=input[j]:=⟨_,rfl⟩
   rw [←htj] at cj
   have bj:(j:Int)<(input.length:Int):=by omega
   have kJ:=ah htj
   clear hc htj
   by_cases hs:65536<tj.size
   ·have e2:decide ((65536:Int)<(tj.size:Int))=true:=ak (by omega)
    have e2':decide (65536<tj.size)=true:=ak hs
    go_wp2_with fail
    exact NW Tryz.results25 rfl rfl (KS.out _ 4 j (Kept.refl _ _)).2 (KS.out _ 4 j (Kept.refl _ _)).1 (.inl ⟨.inr ⟨j,hlt,by rw [←kJ.out];exact hs⟩,by decide,rfl⟩)
   ·have e2:decide ((65536:Int)<(tj.size:Int))=false:=au (by omega)
    have e2':decide (65536<tj.size)=false:=au hs
    go_wp2_with fail
    go_roundw
    case rel=>exact ⟨j+1,by omega,by go_num,by trivial,fun k hk hkj=>by
     by_cases AV:k=j
     ·subst AV;rw [←kJ.out];omega
     ·exact hall.out k hk (by omega)⟩
    case measure=>simp [intOf];omega
  ·obtain rfl:j=input.length:=by omega
   have d1:decide ((lim:Int)<0)=false:=au (by omega)
   have d2:decide ((100000:Int)<(lim:Int))=false:=au (by omega)
   have d2':decide (100000<lim)=false:=au (by omega)
   go_wp2_with go_region
   have hnb:¬pU input:=by
    rintro (h|⟨k,hk,h⟩)
    ·exact hb h
    ·have:=hall.out k hk hk;omega
   exact NW Tryz.results25 rfl rfl (KS.out _ 0 0 (Kept.refl _ _)).2 (KS.out _ 0 0 (Kept.refl _ _)).1.drew (.inr ⟨hnb,rfl,rfl,(TS.out _ 0 0 (Kept.refl _ _)).kept (Kept.refl aA _).drew (fun _ h=>h.elim)⟩)
end Go.Proofs.YtgoijmpahffnhaaGreatDoor

namespace Go.Proofs.YtgoijmpahffnhaaGreatDoor
set_option linter.all false
open Go.RowKit
set_option maxRecDepth 100000
set_option maxHeartbeats 8000000
def Vd:List Value:=[.slice none 0 0,.int .i64 0,.int .i64 0,.slice none 0 0,.slice none 0 0]
def ajs (l:List aF) (input:List aj) (lim:Nat) (w:World) (e:Ending) (w':World):Prop :=
 Kept aA w w'∧((pU input∧∃a b:Int,a≠0∧e=.returned (.tuple #[.agg #[.slice none 0 0,.int .i64 0,.int .i64 0,.slice none 0 0,.slice none 0 0],.slice none 0 0,.agg #[.int .i64 a,.int .i64 b]]))∨
  (¬pU input∧∃(oa a3 a4:Option Addr) (oc n3 c3 n4 c4:Nat) (hv:Value),e=.returned (.tuple #[.agg #[.slice oa (gQ l lim 0 (pK input)).output.length oc,.int .i64 (gQ l lim 0 (pK input)).how,.int .i64 (gQ l lim 0 (pK input)).steps,.slice a3 n3 c3,.slice a4 n4 c4],hv,.agg #[.int .i64 0,.int .i64 0]])∧
   aO w' w.heap.size 9 1 (.slice oa (gQ l lim 0 (pK input)).output.length oc) (gQ l lim 0 (pK input)).output.length ((gQ l lim 0 (pK input)).output.map Value.string)))
theorem AX {B:Nat} {w:World} {o:List Value} (h:dG B 32 o w) (ho:o.length=5) (v0 v1 v2 v3 v4:Value):dG B 32 [v0,v1,v2,v3,v4] (((((w.setCell ⟨B,0,none⟩ v0).setCell ⟨B,1,none⟩ v1).setCell ⟨B,2,none⟩ v2).setCell ⟨B,3,none⟩ v3).setCell ⟨B,4,none⟩ v4):=by
 obtain ⟨a,b,c,d,e,rfl⟩:∃a b c d e,o=[a,b,c,d,e]:=by
  rcases o with _|⟨a,_|⟨b,_|⟨c,_|⟨d,_|⟨e,_|⟨f,o⟩⟩⟩⟩⟩⟩<;>simp at ho
  exact ⟨a,b,c,d,e,rfl⟩
 exact ((((h.set 0 v0).set 1 v1).set 2 v2).set 3 v3).set 4 v4
theorem yU (B:Nat) (w:World) (v0 v1 v2 v3 v4:Value):Kept (· = B) w (((((w.setCell ⟨B,0,none⟩ v0).setCell ⟨B,1,none⟩ v1).setCell ⟨B,2,none⟩ v2).setCell ⟨B,3,none⟩ v3).setCell ⟨B,4,none⟩ v4) :=
 (((((Kept.refl (· = B) w).setCell (p:=⟨B,0,none⟩) (.inl rfl) _).setCell (p:=⟨B,1,none⟩) (.inl rfl) _).setCell (p:=⟨B,2,none⟩) (.inl rfl) _).setCell (p:=⟨B,3,none⟩) (.inl rfl) _).setCell (p:=⟨B,4,none⟩) (.inl rfl) _
theorem yV (B:Nat) (w:World) (v0 v1:Value):Kept (· = B) w ((w.setCell ⟨B,0,none⟩ v0).setCell ⟨B,1,none⟩ v1) :=
 ((Kept.refl (· = B) w).setCell (p:=⟨B,0,none⟩) (.inl rfl) _).setCell (p:=⟨B,1,none⟩) (.inl rfl) _
theorem TL {f:Func} {tmps:Array Value} {Q:Ending→World→Prop} {w2:World} {A C:Nat} {v0 v1 v2 v3 v4 hv:Value} {a b:Int} (hf:f.results = #[.cell 6 32,.tmp 7,.cell 8 39]) (h6:tmps.getD 6 undef=.pointer (some ⟨A,0,none⟩)) (h7:tmps.getD 7 undef=hv) (h8:tmps.getD 8 undef=.pointer (some ⟨C,0,none⟩))
  (hA:dG A 32 [v0,v1,v2,v3,v4] w2) (hC:Fl C a b w2) (hq:Q (.returned (.tuple #[.agg #[v0,v1,v2,v3,v4],hv,.agg #[.int .i64 a,.int .i64 b]])) w2):bodyPost Tryz.prog f Q .ret ⟨tmps,[]⟩ w2:=by
 obtain ⟨c0,c1,_,_⟩:=hC.cells
 have z0:=hA.cell (i:=0) rfl
 have z1:=hA.cell (i:=1) rfl
 have z2:=hA.cell (i:=2) rfl
 have z3:=hA.cell (i:=3) rfl
 have z4:=hA.cell (i:=4) rfl
 have ht6:tmps[6]?.getD undef=.pointer (some ⟨A,0,none⟩):=by rw [←h6,Array.getD_eq_getD_getElem?]
 have ht7:tmps[7]?.getD undef=hv:=by rw [←h7,Array.getD_eq_getD_getElem?]
 have ht8:tmps[8]?.getD undef=.pointer (some ⟨C,0,none⟩):=by rw [←h8,Array.getD_eq_getD_getElem?]
 exact bodyPost_ret (v:=.tuple #[.agg #[v0,v1,v2,v3,v4],hv,.agg #[.int .i64 a,.int .i64 b]]) (by simp [results,hf,go_sem,ht6,ht7,ht8,c0,c1,z0,z1,z2,z3,z4]) rfl hq
theorem abr {l:List aF} {al:Option Addr} {cl:Nat} {S:Nat→Prop} {G:World→Prop} {p:Option Addr} {B:Nat} {input:List aj} {ia:Option Addr} {ic lim W N:Nat} {w2 w3:World} (hl:oh w2 S al l) (hS:∀b,S b→b<N) (hT:qN l B p w2) (hg:G w2) (gk:∀wa wb,Kept (fun b=>N≤b) wa wb→G wa→G wb) (hN:N=w2.heap.size)
  (hin:aQ w2 (· < N) ia input) (hic:input.length≤ic) (hW:AU N ia input.length ic l.length lim W w3) (hk:Kept aA w2 w3) (hl0:0<l.length) :
  ∃F:dF,F.M=w3.heap.size+1∧F.N=N∧F.W=W∧F.R=w3.heap.size∧F.l=l∧F.al=al∧F.cl=cl∧F.lim=lim∧F.G=G∧(∃T,p=some ⟨T,0,none⟩∧F.T=T)∧
   ∀w4,Kept aA w3 w4→dG w3.heap.size 70 [.pointer (some ⟨W,0,none⟩),.slice al l.length cl,.pointer p,.int .i64 0] w4→F.M≤w4.heap.size→aZ F (.slice none 0 0) (pK input) w4:=by
 obtain ⟨hW0,O,Ru,H,hbW,⟨V,I,hV,hI,hO,hVI,TM,La,XY⟩,hH,TN⟩:=hW
 obtain ⟨T,B1,B2,n1,n2,rfl,ht,hm1,hm2,hT1,hT2,hT3⟩:=hT
 have lO:=TM.lt;have lW:=hbW.lt;have lH:=TN.lt
 have lV:=(Array.getElem?_eq_some_iff.1 La).1;have lI:=(Array.getElem?_eq_some_iff.1 XY).1
 have neq:∀{x y:Nat} {a b:Obj},w3.heap[x]?=some a→w3.heap[y]?=some b→a≠b→x≠y:=fun ha hb hne e=>by subst e;rw [ha] at hb;cases hb;exact hne rfl
 have hfx:adx ⟨N,w3.heap.size+1,O,W,w3.heap.size,V,I,Ru,H,l,al,cl,S,T,B1,B2,n1,lim,G⟩:=⟨⟨hO,by show O<w3.heap.size+1;omega⟩,⟨hW0,by show W<w3.heap.size+1;omega⟩,⟨by show N≤w3.heap.size;have:=hk.size;omega,by show w3.heap.size<w3.heap.size+1;omega⟩,⟨hV,by show V<w3.heap.size+1;omega⟩,⟨hI,by show I<w3.heap.size+1;omega⟩,⟨hH,by show H<w3.heap.size+1;omega⟩,
  ⟨neq TM hbW (by simp),by show O≠w3.heap.size;omega,neq TM La (by simp),neq TM XY (by simp),neq TM TN (by simp),by show W≠w3.heap.size;omega,neq hbW La (by simp),neq hbW XY (by simp),neq hbW TN (by simp),by show w3.heap.size≠V;omega,by show w3.heap.size≠I;omega,by show w3.heap.size≠H;omega,hVI,neq La TN (by simp),neq XY TN (by simp)⟩⟩
 refine ⟨⟨N,w3.heap.size+1,O,W,w3.heap.size,V,I,Ru,H,l,al,cl,S,T,B1,B2,n1,lim,G⟩,rfl,rfl,rfl,rfl,rfl,rfl,rfl,rfl,rfl,⟨T,rfl,rfl⟩,fun w4 hk4 hb4 hM=>?_⟩
 have k24:=hk.trans hk4
 have hNl:N≤w4.heap.size:=by have:=k24.size;omega
 refine ⟨⟨hNl,hl.to k24 (fun b hb=>⟨by have:=hS b hb;omega,fun h=>h⟩) (fun _ h=>h),hS,ht.kept k24 (fun h=>h),hm1.kept k24 (fun h=>h),⟨by show T<N;have:=ht.lt;omega,by show B1<N;have:=hm1.lt;omega⟩,gk _ _ (k24.more fun _ h=>h.elim) hg,gk⟩,hfx,hM,hb4,hbW.kept hk4 (fun h=>h),
  ⟨List.replicate l.length 0,by simp,by rw [List.map_replicate];exact TN.kept hk4 (fun h=>h)⟩,⟨ia,ic,TM.kept hk4 (fun h=>h),?_,hic⟩,aO.nil _ _ _ _,?_,⟨rfl,(hk4.block I lI (fun h=>h)).trans XY⟩⟩
 ·exact hin.to k24 (fun b hb=>⟨by have:b<N:=hb;omega,fun h=>h⟩) (fun _ h=>h)
 ·exact ji.of ((hk4.block V lV (fun h=>h)).trans La)
theorem run_any (l:List aF) (al:Option Addr) (cl:Nat) (S:Nat→Prop) (input:List aj) (ia:Option Addr) (ic lim:Nat) (w:World) (G:World→Prop) (nb:aj→Bool) (kb:Int→Bool) (BH:∀F:dF,F.G=G→zY F nb kb) (h4:kb 4=false)
  (hl:oh w S al l) (hS:Safe S aA w.heap.size) (hlen:l.length≤1000000) (hl0:0<l.length) (hck:bY l=(0,0)) (hok:∀s∈l,okS nb kb s=true) (hin:aQ w (· < w.heap.size) ia input) (hic:input.length≤ic) (hil:input.length<1000000000) (hlim:lim≤100000) (hg:G w) (gk:∀N wa wb,w.heap.size≤N→Kept (fun b=>N≤b) wa wb→G wa→G wb) :
  Calls Tryz.prog 18 #[.slice al l.length cl,.slice ia input.length ic,.int .i64 lim] w (ajs l input lim w):=by
 obtain ⟨w1,hw1⟩:∃w1,w1=(w.alloc (.cells #[.slice none 0 0,.int .i64 0,.int .i64 0,.slice none 0 0,.slice none 0 0] 32)).alloc (.cells #[.int .i64 0,.int .i64 0] 39):=⟨_,rfl⟩
 obtain ⟨A,hA⟩:∃A,A=w.heap.size:=⟨_,rfl⟩
 have k1:Kept aA w w1:=by rw [hw1];exact ((Kept.refl aA w).alloc _).alloc _
 have A1:Hid (dG A 32 Vd w1):=by rw [hw1,hA];exact (dG.new w _ Vd).kept ((Kept.refl aA _).alloc _) (fun h=>h)
 have C1:Hid (Fl (w.heap.size+1) 0 0 w1):=by
  have:=ay (w.alloc (.cells #[.slice none 0 0,.int .i64 0,.int .i64 0,.slice none 0 0,.slice none 0 0] 32)) (.cells #[.int .i64 0,.int .i64 0] 39)
  rw [hw1];unfold Hid Fl;rw [←this];simp
 obtain ⟨C,hC⟩:∃C,C=w.heap.size+1:=⟨_,rfl⟩
 rw [←hC] at C1
 have hz1:w1.heap.size=w.heap.size+2:=by rw [hw1];simp
 have hin1:aQ w1 (· < w1.heap.size) ia input:=hin.to k1 (Safe.lt (Nat.le_refl _)) (fun _ h=>Nat.lt_of_lt_of_le h k1.size)
 have HWR:=ah (XW l al cl S input ia ic lim w1 (hl.to k1 hS (fun _ h=>h)) (hS.mono k1.size) (by omega) hck hin1 hil hlim)
 have HW1:=ah hw1;have HA:=ah hA;have HC:=ah hC;have K1:=ah k1;have HZ1:=ah hz1;have jL:=ah hin1;have HSL:=ah hl;have xg:=ah hS;have HG:=ah hg;have GK:=ah gk;have HBH:=ah BH;have TP:=ah hok
 have hAC:A<w1.heap.size∧C<w1.heap.size∧A≠C∧w.heap.size≤A∧w.heap.size≤C:=by omega
 have Lc:=ah hAC
 by_cases hb:pU input
 ·have HWB:Hid (Calls Tryz.prog 25 #[.slice al l.length cl,.slice ia input.length ic,.int .i64 lim] w1 (fun e w'=>∃a b:Int,a≠0∧e=.returned (.tuple #[.pointer none,.agg #[.int .i64 a,.int .i64 b]])∧Kept aA w1 w')):=HWR.out.mono (by
   rintro e w' ⟨hk,⟨_,a,b,ha,he⟩|⟨hn,_⟩⟩
   ·exact ⟨a,b,ha,he,hk⟩
   ·exact absurd hb hn)
  clear hw1 hA hC k1 hz1 hin1 hl hS hck hin hg gk BH hok hAC
  go_enter Tryz.func18, Tryz.ntmps18
  go_upto_region 1 with fail
  rw [←HW1.out,←HC.out,←HA.out]
  clear HW1
  go_upto_region 2 with (go_at_call 25;(with_reducible refine HWB.out.mono ?_);rintro e w2 ⟨a,b,XZ,rfl,k_⟩;have K2:=ah k_;have HN:=ah XZ;clear k_ XZ)
  obtain ⟨w3,hw3⟩:∃w3,w3=w2.alloc (.cells #[.int .i64 a,.int .i64 b] 39):=⟨_,rfl⟩
  obtain ⟨D,hD⟩:∃D,D=w2.heap.size:=⟨_,rfl⟩
  have k3:Kept aA w2 w3:=by rw [hw3];exact (Kept.refl aA w2).alloc _
  have D3:Hid (Fl D a b w3):=by rw [hw3,hD];exact ay w2 _
  have A3:=ah ((A1.out.kept K2.out (fun h=>h)).kept k3 (fun h=>h))
  have C3:=ah ((C1.out.kept K2.out (fun h=>h)).kept k3 (fun h=>h))
  have E9:=ah (K2.out.trans k3)
  have hDC:D≠C∧D≠A:=by have:=K2.out.size;have:=Lc.out;omega
  have NY:=Lc.out.2.2.1
  have abt:C≠A:=fun e=>NY e.symm
  rw [←hw3,←hD]
  obtain ⟨d0,d1,Ld,Le⟩:=D3.out.cells
  obtain ⟨c0,c1,TQ,cf1⟩:=C3.out.cells
  have x0:=A3.out.cell (i:=0) rfl;have x1:=A3.out.cell (i:=1) rfl;have x2:=A3.out.cell (i:=2) rfl;have x3:=A3.out.cell (i:=3) rfl;have x4:=A3.out.cell (i:=4) rfl
  have y0:=A3.out.free 0;have y1:=A3.out.free 1;have y2:=A3.out.free 2;have y3:=A3.out.free 3;have y4:=A3.out.free 4
  have e1:(a != 0)=true:=by simpa using HN.out
  clear hw3 hD k3
  go_wp2_with go_region
  have H5:=AX A3.out rfl (.slice none 0 0) (.int .i64 0) (.int .i64 0) (.slice none 0 0) (.slice none 0 0)
  have k5:=yU A w3 (.slice none 0 0) (.int .i64 0) (.int .i64 0) (.slice none 0 0) (.slice none 0 0)
  have k6:=yV C (((((w3.setCell ⟨A,0,none⟩ (.slice none 0 0)).setCell ⟨A,1,none⟩ (.int .i64 0)).setCell ⟨A,2,none⟩ (.int .i64 0)).setCell ⟨A,3,none⟩ (.slice none 0 0)).setCell ⟨A,4,none⟩ (.slice none 0 0)) (.int .i64 a) (.int .i64 b)
  have C5:=(C3.out.kept k5 abt).set a b
  have h1:=Lc.out
  refine TL Tryz.results18 rfl rfl rfl (H5.kept k6.drew NY) (C5.kept (Kept.refl aA _).drew (fun h=>h)) ⟨?_,.inl ⟨hb,a,b,HN.out,rfl⟩⟩
  exact (((K1.out.trans E9.out).step k5 (fun y hy=>.inr (by have:y=A:=hy;omega))).step k6 (fun y hy=>.inr (by have:y=C:=hy;omega))).drew
 ·have HWB:Hid (Calls Tryz.prog 25 #[.slice al l.length cl,.slice ia input.length ic,.int .i64 lim] w1 (fun e w'=>∃p,e=.returned (.tuple #[.pointer p,.agg #[.int .i64 0,.int .i64 0]])∧qN l w1.heap.size p w'∧Kept aA w1 w')):=HWR.out.mono (by
   rintro e w' ⟨hk,⟨hn,_⟩|⟨_,p,he,ht⟩⟩
   ·exact absurd hn hb
   ·exact ⟨p,he,ht,hk⟩)
  clear hw1 hA hC k1 hz1 hin1 hl hS hck hin hg gk BH hok hAC
  go_enter Tryz.func18, Tryz.ntmps18
  go_upto_region 1 with fail
  rw [←HW1.out,←HC.out,←HA.out]
  clear HW1
  go_upto_region 2 with (go_at_call 25;(with_reducible refine HWB.out.mono ?_);rintro e w2 ⟨p,rfl,t_,k_⟩;have K2:=ah k_;have T2:=ah t_;clear k_ t_)
  obtain ⟨w3,hw3⟩:∃w3,w3=w2.alloc (.cells #[.int .i64 0,.int .i64 0] 39):=⟨_,rfl⟩
  obtain ⟨D,hD⟩:∃D,D=w2.heap.size:=⟨_,rfl⟩
  have k3:Kept aA w2 w3:=by rw [hw3];exact (Kept.refl aA w2).alloc _
  have D3:Hid (Fl D 0 0 w3):=by rw [hw3,hD];exact ay w2 _
  have E9:=ah (K2.out.trans k3)
  have T3:=ah (T2.out.kept k3 (fun _ h=>h.elim))
  have hDC:D≠C∧D≠A:=by have:=K2.out.size;have:=Lc.out;omega
  have hDw:w.heap.size≤D:=by have:=K2.out.size;have:=Lc.out;omega
  rw [←hw3,←hD]
  obtain ⟨d0,d1,Ld,Le⟩:=D3.out.cells
  clear hw3 hD k3
  go_upto_region 4 with fail
  have hkw:Kept aA w w3:=K1.out.trans E9.out
  go_upto_region 5 with (go_at_call 26;(with_reducible refine (NV al ia l.length cl input.length ic lim _ (by omega)).mono ?_);rintro e w4 ⟨W,rfl,aI,k_⟩;have HWN:=ah aI;have K4:=ah k_;clear aI k_)
  obtain ⟨F,fM,fN,fW,fR,fl,fal,fcl,abu,fG,⟨T,hp,fT⟩,hrun⟩:=abr (p:=p) (G:=G) (cl:=cl) (HSL.out.to hkw xg.out (fun _ h=>h)) (fun b hb=>Nat.lt_of_lt_of_le (xg.out b hb).1 hkw.size) (T3.out.low (B:=0) (Nat.zero_le _)) (GK.out w.heap.size _ _ (Nat.le_refl _) (hkw.more fun _ h=>h.elim) HG.out) (fun wa wb hk hg=>GK.out _ wa wb hkw.size hk hg) rfl (jL.out.to E9.out (Safe.lt (Nat.le_refl _)) (fun _ h=>Nat.lt_of_lt_of_le h E9.out.size)) hic HWN.out K4.out hl0
  subst hp
  obtain ⟨w5,hw5⟩:∃w5,w5=w4.alloc (.cells #[.pointer (some ⟨W,0,none⟩),.slice al l.length cl,.pointer (some ⟨T,0,none⟩),.int .i64 0] 70):=⟨_,rfl⟩
  have k5:Kept aA w4 w5:=by rw [hw5];exact (Kept.refl aA w4).alloc _
  have hR5:=hrun w5 k5 (by rw [hw5];exact dG.new w4 _ _) (by rw [fM,hw5];simp)
  have NZ:=QN F nb kb (HBH.out F fG) h4 (.slice none 0 0) (pK input) w5 hR5 (bH.start (fun t ht=>by
   obtain ⟨i,hi,rfl⟩:=List.mem_iff_getElem.1 ht
   exact Nat.le_of_not_lt fun h=>hb (.inr ⟨i,hi,h⟩))) (by rw [fl];exact TP.out) (by rw [abu];omega) (by rw [fl];exact hlen) (Nat.zero_le _)
  rw [fl,abu] at NZ
  have NZ:Calls Tryz.prog 27 #[.pointer (some ⟨F.R,0,none⟩),.int .i64 0] w5 (ThQ F (.slice none 0 0) w5 (gQ l lim 0 (pK input))):=NZ
  obtain ⟨E,hE⟩:∃E,E=w4.heap.size:=⟨_,rfl⟩
  rw [←hw5,←hE]
  rw [←hE] at fR
  obtain ⟨R0,hR0⟩:∃R0,R0=gQ l lim 0 (pK input):=⟨_,rfl⟩
  rw [←hR0] at NZ
  rw [fR] at NZ
  have HTH:=ah NZ;have HR0:=ah hR0;have K5:=ah k5;have HFW:=ah fW;have HFR:=ah fR;have HFN:=ah fN
  have hok0:bH R0:=by
   rw [hR0]
   exact adw TP.out _ _ _ (bH.start (fun t ht=>by
    obtain ⟨i,hi,rfl⟩:=List.mem_iff_getElem.1 ht
    exact Nat.le_of_not_lt fun h=>hb (.inr ⟨i,hi,h⟩)))
  have HX:Hid (∀b,RX F (.slice none 0 0) b→w3.heap.size≤b):=fun b hb=>by have:=(hR5.xlt hb).1;omega
  have HFM:Hid (w.heap.size+2≤F.M):=by have:=K4.out.size;have:=E9.out.size;have:=HZ1.out;unfold Hid;omega
  have ajt:=ah hok0
  clear NZ hR0 k5 hw5 hE fW fR fN fM fl fal fcl abu fG fT hrun hR5 hok0 d0 d1 Ld Le
  go_upto_region 6 with (go_at_call 27;(with_reducible refine HTH.out.mono ?_);rintro e w6 ⟨rfl,ov6,r_⟩;have R6:=ah r_;clear r_)
  have hSW:=XU F ov6 R0 w6 R6.out.at_ ajt.out
  obtain ⟨r0,_⟩:=R6.out.at_.yc
  rw [HFR.out,HFW.out] at r0
  rw [HFW.out] at hSW
  obtain ⟨oa,oc,hov⟩:=R6.out.at_.out.shape
  subst hov
  have HSW:=ah hSW
  have W6:=ah R6.out.at_.out
  clear hSW
  go_upto_region 7 with (go_at_call 28;(with_reducible refine HSW.out.mono ?_);rintro e w7 ⟨a3,a4,n3,c3,n4,c4,hv,rfl,k_⟩;have K7:=ah k_;clear k_)
  obtain ⟨w8,hw8⟩:∃w8,w8=w7.alloc (.cells #[.slice oa R0.output.length oc,.int .i64 R0.how,.int .i64 R0.steps,.slice a3 n3 c3,.slice a4 n4 c4] 32):=⟨_,rfl⟩
  have k8:Kept aA w7 w8:=by rw [hw8];exact (Kept.refl aA w7).alloc _
  have k38:Kept aA w3 w8:=(((K4.out.trans K5.out).step R6.out.kept (fun y hy=>.inr (HX.out y hy))).trans K7.out).trans k8
  obtain ⟨Q,hQ⟩:∃Q,Q=w7.heap.size:=⟨_,rfl⟩
  have hQ8:dG Q 32 [.slice oa R0.output.length oc,.int .i64 R0.how,.int .i64 R0.steps,.slice a3 n3 c3,.slice a4 n4 c4] w8:=by rw [hw8,hQ];exact dG.new w7 _ _
  have D8:=D3.out.kept k38 (fun h=>h)
  have A8:=(A1.out.kept E9.out (fun h=>h)).kept k38 (fun h=>h)
  have C8:=ah ((C1.out.kept E9.out (fun h=>h)).kept k38 (fun h=>h))
  have W8:=ah ((W6.out.kept K7.out (fun _ _ h=>h)).kept k8 (fun _ _ h=>h))
  have K18:=ah (E9.out.trans k38)
  have hQn:Q≠A∧Q≠C∧A≠Q∧C≠Q:=by have:=E9.out.size;have:=Lc.out;have:=((((K4.out.trans K5.out).step R6.out.kept (fun y hy=>.inr (HX.out y hy))).trans K7.out)).size;omega
  have NY:=Lc.out.2.2.1
  have abt:C≠A:=fun e=>NY e.symm
  obtain ⟨q1,q2,q3,q4⟩:=hQn
  rw [←hw8,←hQ]
  obtain ⟨d0,d1,Ld,Le⟩:=D8.cells
  obtain ⟨c0,c1,TQ,cf1⟩:=C8.out.cells
  have x0:=A8.cell (i:=0) rfl;have x1:=A8.cell (i:=1) rfl;have x2:=A8.cell (i:=2) rfl;have x3:=A8.cell (i:=3) rfl;have x4:=A8.cell (i:=4) rfl
  have y0:=A8.free 0;have y1:=A8.free 1;have y2:=A8.free 2;have y3:=A8.free 3;have y4:=A8.free 4
  have z0:=hQ8.cell (i:=0) rfl;have z1:=hQ8.cell (i:=1) rfl;have z2:=hQ8.cell (i:=2) rfl;have z3:=hQ8.cell (i:=3) rfl;have z4:=hQ8.cell (i:=4) rfl
  have HA8:=ah A8
  clear hw8 hQ k8 k38 hQ8 D8 A8 r0
  go_wp2_with go_region
  have H5:=AX HA8.out rfl (.slice oa R0.output.length oc) (.int .i64 R0.how) (.int .i64 R0.steps) (.slice a3 n3 c3) (.slice a4 n4 c4)
  have k5:=yU A w8 (.slice oa R0.output.length oc) (.int .i64 R0.how) (.int .i64 R0.steps) (.slice a3 n3 c3) (.slice a4 n4 c4)
  have k6:=yV C (((((w8.setCell ⟨A,0,none⟩ (.slice oa R0.output.length oc)).setCell ⟨A,1,none⟩ (.int .i64 R0.how)).setCell ⟨A,2,none⟩ (.int .i64 R0.steps)).setCell ⟨A,3,none⟩ (.slice a3 n3 c3)).setCell ⟨A,4,none⟩ (.slice a4 n4 c4)) (.int .i64 0) (.int .i64 0)
  have C5:=(C8.out.kept k5 abt).set 0 0
  have h1:=Lc.out
  have h2:=HFM.out
  have h3:=HZ1.out
  refine TL Tryz.results18 rfl rfl rfl (H5.kept k6.drew NY) (C5.kept (Kept.refl aA _).drew (fun h=>h)) ⟨?_,.inr ⟨hb,oa,a3,a4,oc,n3,c3,n4,c4,hv,by rw [←HR0.out];rfl,?_⟩⟩
  ·exact (((K1.out.trans K18.out).step k5 (fun y hy=>.inr (by have:y=A:=hy;omega))).step k6 (fun y hy=>.inr (by have:y=C:=hy;omega))).drew
  ·rw [←HR0.out]
   have:=((W8.out.kept k5 (fun b hb e=>by have e:b=A:=e;have:=(W8.out.lt b hb).1;omega)).kept k6.drew (fun b hb e=>by have e:b=C:=e;have:=(W8.out.lt b hb).1;omega)).mono (B':=w.heap.size) (by omega)
   exact this
end Go.Proofs.YtgoijmpahffnhaaGreatDoor

namespace Go.Proofs.YtgoijmpahffnhaaGreatDoor
set_option linter.all false
open Go.RowKit
set_option maxRecDepth 100000
set_option maxHeartbeats 8000000
def kK (a b:Nat) (input:List aj):Bool:=(input.any fun t=>decide (a<t.size))||decide (b<input.length)
theorem abv (input:List aj):pU input↔kK 65536 1000 input=true:=by
 unfold pU kK
 rw [Bool.or_eq_true,List.any_eq_true]
 constructor
 ·rintro (h|⟨i,hi,h⟩)
  ·exact .inr (ak h)
  ·exact .inl ⟨_,List.getElem_mem hi,ak h⟩
 ·rintro (⟨t,ht,h⟩|h)
  ·obtain ⟨k,hk,rfl⟩:=List.mem_iff_getElem.1 ht
   exact .inr ⟨k,hk,of_decide_eq_true h⟩
  ·exact .inl (of_decide_eq_true h)
theorem Ve (input:List aj) (ia:Option Addr) (ic:Nat) (w:World) (hin:aQ w (· < w.heap.size) ia input) (hil:input.length<1000000000):Calls Tryz.prog 12 #[.slice ia input.length ic] w (fun e w'=>e=.returned (.bool (kK 65536 1000 input))∧w'=w):=by
 have jL:=ah hin
 clear hin
 go_enter Tryz.func12, Tryz.ntmps12
 go_wp2_with fail
 go_loopw [7] (fun i wr=>∃j:Nat,j≤input.length∧i=.int .i64 j∧wr=w∧Hid (∀k,(h:k<input.length)→k<j→input[k].size≤65536)) (fun i _=>input.length-(intOf i).toNat)
 case atStart=>exact ⟨0,Nat.zero_le _,rfl,rfl,fun k _ h=>absurd h (by omega)⟩
 case round =>
  obtain ⟨j,hj,rfl,rfl,hall⟩:=hrel
  by_cases hlt:j<input.length
  ·obtain ⟨bi,oi,rfl,_,hc⟩:=jL.out (by omega)
   have cj:=hc j hlt
   obtain ⟨tj,htj⟩:∃tj,tj=input[j]:=⟨_,rfl⟩
   rw [←htj] at cj
   have bj:(j:Int)<(input.length:Int):=by omega
   have kJ:=ah htj
   clear hc htj
   by_cases hs:65536<tj.size
   ·have e2:decide ((65536:Int)<(tj.size:Int))=true:=ak (by omega)
    have e2':decide (65536<tj.size)=true:=ak hs
    have fin:Hid (kK 65536 1000 input=true):=by
     unfold Hid kK
     rw [Bool.or_eq_true,List.any_eq_true]
     exact .inl ⟨input[j],List.getElem_mem hlt,ak (by rw [←kJ.out];exact hs)⟩
    go_wp2_with fail
    go_ret
    exact ⟨by rw [fin.out];rfl,rfl⟩
   ·have e2:decide ((65536:Int)<(tj.size:Int))=false:=au (by omega)
    have e2':decide (65536<tj.size)=false:=au hs
    go_wp2_with fail
    go_roundw
    case rel=>exact ⟨j+1,by omega,by go_num,by trivial,fun k hk hkj=>by
     by_cases AV:k=j
     ·subst AV;rw [←kJ.out];omega
     ·exact hall.out k hk (by omega)⟩
    case measure=>simp [intOf];omega
  ·obtain rfl:j=input.length:=by omega
   have fin:Hid (kK 65536 1000 input=decide (1000<input.length)):=by
    unfold Hid kK
    have:(input.any fun t=>decide (65536<t.size))=false:=by
     rw [List.any_eq_false]
     intro t ht
     obtain ⟨k,hk,rfl⟩:=List.mem_iff_getElem.1 ht
     have:=hall.out k hk hk
     simp;omega
    rw [this,Bool.false_or]
   have fin2:Hid (kK 65536 1000 input=decide ((1000:Int)<(input.length:Int))):=by
    unfold Hid
    rw [fin.out]
    by_cases hx:1000<input.length
    ·rw [ak hx,ak (by omega)]
    ·rw [au hx,au (by omega)]
   go_wp2_with fail
   go_ret
   exact ⟨by first|(rw [fin2.out];rfl)|(rw [fin.out];rfl),rfl⟩
theorem X0 (input:List aj) (ia:Option Addr) (ic:Nat) (w:World) (hin:aQ w (· < w.heap.size) ia input) (hil:input.length<1000000000):Calls Tryz.prog 13 #[.slice ia input.length ic] w (fun e w'=>e=.returned (.bool (kK 30 12 input))∧w'=w):=by
 have jL:=ah hin
 clear hin
 go_enter Tryz.func13, Tryz.ntmps13
 go_wp2_with fail
 go_loopw [7] (fun i wr=>∃j:Nat,j≤input.length∧i=.int .i64 j∧wr=w∧Hid (∀k,(h:k<input.length)→k<j→input[k].size≤30)) (fun i _=>input.length-(intOf i).toNat)
 case atStart=>exact ⟨0,Nat.zero_le _,rfl,rfl,fun k _ h=>absurd h (by omega)⟩
 case round =>
  obtain ⟨j,hj,rfl,rfl,hall⟩:=hrel
  by_cases hlt:j<input.length
  ·obtain ⟨bi,oi,rfl,_,hc⟩:=jL.out (by omega)
   have cj:=hc j hlt
   obtain ⟨tj,htj⟩:∃tj,tj=input[j]:=⟨_,rfl⟩
   rw [←htj] at cj
   have bj:(j:Int)<(input.length:Int):=by omega
   have kJ:=ah htj
   clear hc htj
   by_cases hs:30<tj.size
   ·have e2:decide ((30:Int)<(tj.size:Int))=true:=ak (by omega)
    have e2':decide (30<tj.size)=true:=ak hs
    have fin:Hid (kK 30 12 input=true):=by
     unfold Hid kK
     rw [Bool.or_eq_true,List.any_eq_true]
     exact .inl ⟨input[j],List.getElem_mem hlt,ak (by rw [←kJ.out];exact hs)⟩
    go_wp2_with fail
    go_ret
    exact ⟨by rw [fin.out];rfl,rfl⟩
   ·have e2:decide ((30:Int)<(tj.size:Int))=false:=au (by omega)
    have e2':decide (30<tj.size)=false:=au hs
    go_wp2_with fail
    go_roundw
    case rel=>exact ⟨j+1,by omega,by go_num,by trivial,fun k hk hkj=>by
     by_cases AV:k=j
     ·subst AV;rw [←kJ.out];omega
     ·exact hall.out k hk (by omega)⟩
    case measure=>simp [intOf];omega
  ·obtain rfl:j=input.length:=by omega
   have fin:Hid (kK 30 12 input=decide (12<input.length)):=by
    unfold Hid kK
    have:(input.any fun t=>decide (30<t.size))=false:=by
     rw [List.any_eq_false]
     intro t ht
     obtain ⟨k,hk,rfl⟩:=List.mem_iff_getElem.1 ht
     have:=hall.out k hk hk
     simp;omega
    rw [this,Bool.false_or]
   have fin2:Hid (kK 30 12 input=decide ((12:Int)<(input.length:Int))):=by
    unfold Hid
    rw [fin.out]
    by_cases hx:12<input.length
    ·rw [ak hx,ak (by omega)]
    ·rw [au hx,au (by omega)]
   go_wp2_with fail
   go_ret
   exact ⟨by first|(rw [fin2.out];rfl)|(rw [fin.out];rfl),rfl⟩
theorem X7 (l:List aj) (a b:Option Addr) (ca cb:Nat) (w:World) (ha:aQ w (· < w.heap.size) a l) (hb:aQ w (· < w.heap.size) b l) (hlen:l.length≤1048576):Calls Tryz.prog 14 #[.slice a l.length ca,.slice b l.length cb] w (ug true w):=by
 have HA:=ah ha;have HB:=ah hb
 clear ha hb
 go_enter Tryz.func14, Tryz.ntmps14
 go_wp2_with fail
 go_loopw [13] (fun i wr=>∃j:Nat,j≤l.length∧i=.int .i64 j∧Hid (Kept aA w wr)) (fun i _=>l.length-(intOf i).toNat)
 case atStart=>exact ⟨0,Nat.zero_le _,rfl,Kept.refl _ _⟩
 case round =>
  obtain ⟨j,hj,rfl,K⟩:=hrel
  by_cases hlt:j<l.length
  ·have e1:decide ((j:Int)<(l.length:Int))=true:=ak (by omega)
   have bj:(j:Int)<(l.length:Int):=by omega
   obtain ⟨ga,oa,rfl,hga,hca⟩:=HA.out.to K.out (Safe.lt (Nat.le_refl _)) (fun _ h=>h) (by omega)
   obtain ⟨gb,ob,rfl,hgb,hcb⟩:=HB.out.to K.out (Safe.lt (Nat.le_refl _)) (fun _ h=>h) (by omega)
   have qa:=hca j hlt;have qb:=hcb j hlt
   obtain ⟨x,hx⟩:∃x,x=l[j]:=⟨_,rfl⟩
   rw [←hx] at qa qb
   clear hca hcb hga hgb hx
   go_wp2_with fail
   go_quiet (fail)
   have K2:Hid (Kept aA w (wr.drewN nq)):=K.out.drewN nq
   go_wp2_with fail
   go_roundw
   case rel=>exact ⟨j+1,by omega,by go_num,K2⟩
   case measure=>simp [intOf];omega
  ·obtain rfl:j=l.length:=by omega
   go_wp2_with fail
   go_ret
   exact ⟨rfl,K.out⟩
end Go.Proofs.YtgoijmpahffnhaaGreatDoor
