/-  -/
import Derived.Test.YtgoijmpahffnhaaGreatDoorLr7
import Derived.Test.YtgoijmpahffnhaaGreatDoorLc14
import Derived.Test.YtgoijmpahffnhaaGreatDoorLc20
namespace Go.Proofs.YtgoijmpahffnhaaGreatDoor
set_option linter.all false
open Go.RowKit
set_option maxRecDepth 100000
set_option maxHeartbeats 4000000
theorem eval_any (F:dQ) (nb:aj→Bool) (kb:Int→Bool) (BH:Et F nb kb) (h4:kb 4=false) (Sx:Nat→Prop) (hsx:∀b,Sx b→b<F.N) :
  ∀(m:Nat) (x:aA) (b o:Nat) (ov:Value) (S:aY) (w:World),sizeT x≤m→bg F ov S w→bM S→aW w Sx b o x→uZ nb kb x=true→
   Calls Tryz.prog 67 #[.pointer (some ⟨F.R,0,none⟩),.pointer (some ⟨b,o,none⟩)] w (EvQ F ov w (jy x S)):=by
 intro m
 induction m with
 | zero=>intro x b o ov S w hm;cases x;simp [sizeT] at hm
 | succ m ih =>
  rintro ⟨k,t,n,nm,kids⟩ b o ov S w hm h ok hx hk
  by_cases k1:k=1
  ·subst k1;exact abp F ov S Sx t n nm kids b o w h hx
  by_cases k2:k=2
  ·subst k2
   rw [uZ,if_neg (by decide),if_pos rfl,Bool.and_eq_true] at hk
   exact adf F nb kb BH ov S Sx t n nm kids b o w h hx hk.1 (of_decide_eq_true hk.2)
  by_cases k3:k=3
  ·subst k3;exact abq F ov S Sx t n nm kids b o w h hsx hx
  have hk0:=hk
  rw [uZ,if_neg k1,if_neg k2,if_neg k3,Bool.and_eq_true] at hk
  have h6:6≤k∧k≤13:=by
   have h2:=hk.2
   split at h2
   ·rw [h4] at h2;cases h2
   split at h2
   ·omega
   split at h2
   ·omega
   ·rw [Bool.and_eq_true] at h2;have:=of_decide_eq_true h2.2;omega
  exact abt F nb kb BH ov S Sx k t n nm kids b o w h hsx h6 hk0 ok hx fun j hj b' o' rQ S' w' hr hok hp=>ih kids[j] b' o' rQ S' w' (by have:=qy kids j hj;simp only [sizeT] at hm;omega) hr hok hp (FC hk.1 j hj)
theorem vk {w:World} {Sx:Nat→Prop} {b o:Nat} {s:aG} (h:Ah w Sx b o s):w.cell? ⟨b,o+1,none⟩=some (.int .i64 s.kind)∧aW w Sx b (o+2) s.target∧aW w Sx b (o+7) s.value∧sizeT s.value≤1048576∧s.target.name.size<1000000000∧
  w.cell? ⟨b,o+21,none⟩=some (.string s.always)∧w.cell? ⟨b,o+22,none⟩=some (.string s.yes)∧w.cell? ⟨b,o+23,none⟩=some (.string s.dh):=by
 obtain ⟨a,hb,hz,hc,ho⟩:=h
 exact ⟨hc 1 (by decide),yM hb hz.target.z (hc 2 (by decide)) (hc 3 (by decide)) (hc 4 (by decide)) (hc 5 (by decide)) (hc 6 (by decide)) ho.target,
  yM hb hz.value.z (hc 7 (by decide)) (hc 8 (by decide)) (hc 9 (by decide)) (hc 10 (by decide)) (hc 11 (by decide)) ho.value,hz.value.t,hz.target.z.2.1,hc 21 (by decide),hc 22 (by decide),hc 23 (by decide)⟩
section
variable (F:dQ) (nb:aj→Bool) (kb:Int→Bool) (BH:Et F nb kb) (h4:kb 4=false) (ov:Value) (S:aY) (Sx:Nat→Prop) (s:aG) (b o:Nat) (w:World) (h:bg F ov S w) (ok:bM S) (hsx:∀b,Sx b→b<F.N) (hx:Ah w Sx b o s)
include h hx
theorem abu (hk:s.kind=1):Calls Tryz.prog 38 #[.pointer (some ⟨F.R,0,none⟩),.pointer (some ⟨b,o,none⟩)] w (x8 F ov w (oC s S)):=by
 obtain ⟨q0,_⟩:=vk hx
 have fin:Hid (oC s S=(true,S)):=by unfold Hid oC;rw [if_neg (by omega),if_neg (by omega)]
 rw [hk] at q0
 have H:=ah h
 clear h hx hk
 go_enter Tryz.func38, Tryz.ntmps38
 go_wp2_with fail
 go_ret
 exact ⟨by rw [fin.out];rfl,ov,by rw [fin.out];exact bI.refl H.out⟩
include BH h4 hsx ok
theorem abv (hk:s.kind=2) (hoe:uZ nb kb s.value=true):Calls Tryz.prog 38 #[.pointer (some ⟨F.R,0,none⟩),.pointer (some ⟨b,o,none⟩)] w (x8 F ov w (oC s S)):=by
 obtain ⟨q0,_,hv,hz,_⟩:=vk hx
 have fin:Hid (oC s S=((jy s.value S).1.isSome,(jy s.value S).2)):=by unfold Hid oC;rw [if_pos hk]
 have HE:=ah (eval_any F nb kb BH h4 Sx hsx _ s.value b (o+7) ov S w hz h ok hv hoe)
 rw [hk] at q0
 clear h hx hk hv BH h4
 go_enter Tryz.func38, Tryz.ntmps38
 go_wp2_with (go_at_call 67;(with_reducible refine HE.out.mono ?_);rintro e w2 ⟨rfl,nU,r_⟩;have R2:=ah r_;clear r_)
 go_ret
 exact ⟨by rw [fin.out];rfl,nU,by rw [fin.out];exact R2.out⟩
theorem Vy (hk:s.kind=3) (hoe:uZ nb kb s.value=true) (ht:s.target.kind=3):Calls Tryz.prog 38 #[.pointer (some ⟨F.R,0,none⟩),.pointer (some ⟨b,o,none⟩)] w (x8 F ov w (oC s S)):=by
 obtain ⟨q0,hg,_,hz,hnz,_⟩:=vk hx
 have hsf:Safe Sx aB w.heap.size:=fun b hb=>⟨Nat.lt_of_lt_of_le (hsx b hb) h.ql.low,fun h=>h⟩
 have HP:=ah (Gx F ov S Sx s.target b (o+2) w h hg hsf ht)
 have hpf:nT s.target S=(some ⟨s.target.name,⟨#[]⟩,false⟩,S):=if_pos ht
 have QW:=ah hpf
 have HEV:Hid (∀fE wx,bg F fE S wx→Kept (RX F ov) w wx→Calls Tryz.prog 67 #[.pointer (some ⟨F.R,0,none⟩),.pointer (some ⟨b,o+7,none⟩)] wx (EvQ F fE wx (jy s.value S))):=fun fE wx hr hk=>by
  have:=hx.to hk (fun b hb=>⟨(hsf b hb).1,fun hc=>by have:=(h.xlt hc).1;have:=hsx b hb;omega⟩) (fun _ h=>h)
  obtain ⟨_,_,hv,_⟩:=vk this
  exact eval_any F nb kb BH h4 Sx hsx _ s.value b (o+7) fE S wx hz hr ok hv hoe
 have hev:=ah (Gt (nb:=nb) (kb:=kb) s.value S hoe ok)
 have hxk:Hid (∀wx,Kept (RX F ov) w wx→wx.cell? ⟨b,o+1,none⟩=some (.int .i64 3)):=fun wx hk2=>by
  have:=hx.to hk2 (fun b hb=>⟨(hsf b hb).1,fun hc=>by have:=(h.xlt hc).1;have:=hsx b hb;omega⟩) (fun _ h=>h)
  rw [(vk this).1,hk]
 obtain ⟨tn,htn⟩:∃tn,tn=s.target.name:=⟨_,rfl⟩
 rw [←htn] at QW hpf hnz
 rw [hk] at q0
 have hd:oC s S=(match jy s.value S with
   | (none,w2)=>(false,w2)
   | (some t,w2)=>gU w2 tn t):=by
  unfold oC
  rw [if_neg (by omega),if_pos hk,hpf]
  rfl
 have HD:=ah hd
 have H:=ah h
 clear h hx hk hg hsf BH h4 ok hoe ht htn hpf hd
 go_enter Tryz.func38, Tryz.ntmps38
 go_upto_region 14 with (go_at_call 69;(with_reducible refine HP.out.mono ?_);rintro e w1 ⟨⟨p_,rfl,Ns⟩,fE,r_⟩;rw [QW.out] at r_ Ns;obtain rfl:=Ns _ rfl;rw [QW.out];dsimp only [Option.isSome];have R1:=ah r_;clear r_ Ns)
 obtain ⟨w2,hw2⟩:∃w2,w2=w1.alloc (.cells #[.string tn,.string ⟨#[]⟩,.bool false] 137):=⟨_,rfl⟩
 obtain ⟨B,hB⟩:∃B,B=w1.heap.size:=⟨_,rfl⟩
 have hb:yT B tn ⟨#[]⟩ false w2:=by rw [hw2,hB];exact dO.new _ _ _
 have k2:Kept aB w1 w2:=by rw [hw2];exact (Kept.refl aB w1).alloc _
 rw [←hw2,←hB]
 have R2:=R1.out.quiet k2
 have hBx:¬RX F fE B:=R1.out.at_.mine (by rw [hB];exact Nat.le_refl _)
 have HE:=ah (HEV.out fE w2 R2.at_ R2.kept)
 have q1:=hxk.out w2 R2.kept
 have HR2:=ah R2;have HPL:=ah hb;have HBX:=ah hBx
 clear hw2 hB hb k2 R2 R1 hBx q0
 cases he:jy s.value S with
 | mk r1 S1 =>
 rw [he] at HE HD hev
 cases r1 with
 | none =>
  go_wp2_with (go_at_call 67;(with_reducible refine HE.out.mono ?_);rintro e w3 ⟨rfl,CU,r_⟩;dsimp only [Option.getD,Option.isSome] at r_⊢;have R3:=ah (HR2.out.trans r_);clear r_)
  have fin:Hid (oC s S=(false,S1)):=HD.out
  go_quiet (fail)
  go_wp2_with fail
  go_ret
  exact ⟨by rw [fin.out];rfl,CU,by rw [fin.out];exact R3.out.quiet ((Kept.refl aB _).drewN _)⟩
 | some t =>
  have hS1:=hev.out.1
  have htz:t.size≤65536:=hev.out.2 t rfl
  have fin:Hid (oC s S=gU S1 tn t):=HD.out
  have J3:=ah hS1
  have het:(⟨#[]⟩++t:aj)++(⟨#[]⟩:aj)=t:=by
   apply ByteArray.ext
   simp
  have agF:Hid (∀CU w3 wx,bI F ov w CU S1 w3→Kept aB w3 wx→Calls Tryz.prog 71 #[.pointer (some ⟨F.O,0,none⟩),.agg #[.string tn,.string ⟨#[]⟩,.bool false],.string t] wx (x8 F CU wx (gU S1 tn t))):=fun CU w3 wx hr hk =>
   write_any F CU S1 tn ⟨#[]⟩ t wx (hr.at_.quiet hk) J3.out (by omega) (by omega)
  clear hS1
  go_upto_region 26 with (go_at_call 67;(with_reducible refine HE.out.mono ?_);rintro e w3 ⟨rfl,CU,r_⟩;dsimp only [Option.getD,Option.isSome] at r_⊢;have R3:=ah (HR2.out.trans r_);have P3:=ah (dO.kept HPL.out r_.kept HBX.out);clear r_)
  have HWR:=ah (fun wx hk=>agF.out CU w3 wx R3.out hk)
  obtain ⟨Sp,hSp⟩:∃Sp:Nat→Value→World→Prop,Sp=(fun i v wx=>match i with
   | 0=>v=.bool true
   | 1=>v=.bool true
   | 2=>v=.pointer (some ⟨F.R,0,none⟩)
   | 3=>v=.pointer (some ⟨F.R,0,none⟩)
   | 4=>v=.pointer (some ⟨F.R,0,none⟩)
   | 5=>v=.pointer (some ⟨F.W,0,none⟩)
   | 6=>v=.pointer (some ⟨F.W,0,none⟩)
   | 7=>v=.pointer (some ⟨F.W,0,none⟩)
   | 8=>v=.pointer (some ⟨F.O,0,none⟩)
   | 9=>v=.agg #[.string tn,.string ⟨#[]⟩,.bool false]
   | 10=>v=.string ⟨#[]⟩
   | 11=>v=.string t
   | 12=>v=.string (⟨#[]⟩++t)
   | 13=>v=.string ⟨#[]⟩
   | 14=>v=.string t
   | 15=>v=.bool (gU S1 tn t).1
   | 16=>v=.bool (gU S1 tn t).1
   | _=>v=.bool (gU S1 tn t).1):=⟨_,rfl⟩
  obtain ⟨J,hJd⟩:∃J:(Nat→Bool)→(Nat→Value)→World→Prop,J=(fun l f wx=>(l 15=false→Kept aB w3 wx)∧(l 15=true→(fun wx=>∃rQ,bI F ov w rQ (gU S1 tn t).2 wx) wx)):=⟨_,rfl⟩
  refine jA (RX F CU) J Sp [119,120,121,122,123,124,125,126,127,128,129,130,131,132,133,134,135,4] (by kernel_rfl) (by kernel_rfl) (by kernel_rfl) (fun i v w w' h hk=>by subst hSp;exact h) ?_ ?_ ?_ ?_
  ·intro i o hi lq x wy hI hJ hlf haft
   rw [hJd] at hJ
   have hsz:x.tmps.size=151:=hI.size
   have s0:x.eval (.tmp 0)=.pointer (some ⟨F.R,0,none⟩):=hI.keep 0 _ rfl (by kernel_rfl)
   have s9:x.eval (.tmp 9)=.pointer (some ⟨B,0,none⟩):=hI.keep 9 _ rfl (by kernel_rfl)
   have s10:x.eval (.tmp 10)=.bool true:=hI.keep 10 _ rfl (by kernel_rfl)
   have s11:x.eval (.tmp 11)=.string ⟨#[]⟩:=hI.keep 11 _ rfl (by kernel_rfl)
   have s12:x.eval (.tmp 12)=.string ⟨#[]⟩:=hI.keep 12 _ rfl (by kernel_rfl)
   have s16:x.eval (.tmp 16)=.string t:=hI.keep 16 _ rfl (by kernel_rfl)
   have hjn:∀(l':Nat→Bool),(∀j,l' j=true↔j=i∨lq j=true)→i≠15→∀f,J l' f wy:=by
    intro l' hl hne f
    have e:=upd_ne hl 15 (Ne.symm hne)
    rw [hJd];show (l' 15=false→_)∧(l' 15=true→_)
    rw [e];exact hJ
   rcases i with _|_|_|_|_|_|_|_|_|_|_|_|_|_|_|_|_|_|i
   all_goals (simp only [List.getElem?_toArray,List.getElem?_cons_zero,List.getElem?_cons_succ,List.getElem?_nil,Option.some.injEq,reduceCtorEq] at hi)
   all_goals subst hi
   ·refine aU rfl ?_
    refine aO (v:=.bool true) ?_ (by subst hSp;exact rfl) (fun l' hl=>hjn l' hl (by decide) _)
    simp only [execOp,resolve,invoke,List.map_toArray,List.map_cons,List.map_nil,s10];go_simp
   ·refine aU rfl ?_
    have YP:x.eval (.tmp 119)=.bool true:=by have h_:=hI.dep haft 0 119 rfl rfl rfl;rw [hSp] at h_;exact h_
    refine aO (v:=.bool true) ?_ (by subst hSp;exact rfl) (fun l' hl=>hjn l' hl (by decide) _)
    simp only [execOp,resolve,invoke,List.map_toArray,List.map_cons,List.map_nil,YP];go_simp
   ·have g_:x.eval (.tmp 120)=.bool true:=by have h_:=hI.dep haft 1 120 rfl rfl rfl;rw [hSp] at h_;exact h_
    refine mY rfl rfl rfl g_ (by rw [hsz];decide) ?_
    refine aO (v:=.pointer (some ⟨F.R,0,none⟩)) ?_ (by subst hSp;exact rfl) (fun l' hl=>hjn l' hl (by decide) _)
    simp only [execOp,resolve,invoke,List.map_toArray,List.map_cons,List.map_nil,s0];go_simp
   ·have g_:x.eval (.tmp 120)=.bool true:=by have h_:=hI.dep haft 1 120 rfl rfl rfl;rw [hSp] at h_;exact h_
    refine mY rfl rfl rfl g_ (by rw [hsz];decide) ?_
    have YQ:x.eval (.tmp 121)=.pointer (some ⟨F.R,0,none⟩):=by have h_:=hI.dep haft 2 121 rfl rfl rfl;rw [hSp] at h_;exact h_
    refine aO (v:=.pointer (some ⟨F.R,0,none⟩)) ?_ (by subst hSp;exact rfl) (fun l' hl=>hjn l' hl (by decide) _)
    simp only [execOp,resolve,invoke,List.map_toArray,List.map_cons,List.map_nil,YQ];go_simp
   ·have g_:x.eval (.tmp 120)=.bool true:=by have h_:=hI.dep haft 1 120 rfl rfl rfl;rw [hSp] at h_;exact h_
    refine mY rfl rfl rfl g_ (by rw [hsz];decide) ?_
    have YR:x.eval (.tmp 122)=.pointer (some ⟨F.R,0,none⟩):=by have h_:=hI.dep haft 3 122 rfl rfl rfl;rw [hSp] at h_;exact h_
    refine aO (v:=.pointer (some ⟨F.R,0,none⟩)) ?_ (by subst hSp;exact rfl) (fun l' hl=>hjn l' hl (by decide) _)
    simp only [execOp,resolve,invoke,List.map_toArray,List.map_cons,List.map_nil,YR];go_simp
   ·have g_:x.eval (.tmp 120)=.bool true:=by have h_:=hI.dep haft 1 120 rfl rfl rfl;rw [hSp] at h_;exact h_
    refine mY rfl rfl rfl g_ (by rw [hsz];decide) ?_
    have YS:x.eval (.tmp 123)=.pointer (some ⟨F.R,0,none⟩):=by have h_:=hI.dep haft 4 123 rfl rfl rfl;rw [hSp] at h_;exact h_
    have hk:=hJ.1 (hI.no (hI.no (hI.no (hI.no hlf 6 rfl rfl) 7 rfl rfl) 8 rfl rfl) 15 rfl rfl)
    obtain ⟨r0,_⟩:=(R3.out.at_.quiet hk).xZ
    obtain ⟨u0,_⟩:=(R3.out.at_.quiet hk).qE
    obtain ⟨c0,c1,c2,_⟩:=yT.cells (dO.kept P3.out hk (fun h=>h))
    refine aO (v:=.pointer (some ⟨F.W,0,none⟩)) ?_ (by subst hSp;exact rfl) (fun l' hl=>hjn l' hl (by decide) _)
    simp only [execOp,resolve,invoke,List.map_toArray,List.map_cons,List.map_nil,YS];go_simp
   ·have g_:x.eval (.tmp 120)=.bool true:=by have h_:=hI.dep haft 1 120 rfl rfl rfl;rw [hSp] at h_;exact h_
    refine mY rfl rfl rfl g_ (by rw [hsz];decide) ?_
    have YT:x.eval (.tmp 124)=.pointer (some ⟨F.W,0,none⟩):=by have h_:=hI.dep haft 5 124 rfl rfl rfl;rw [hSp] at h_;exact h_
    refine aO (v:=.pointer (some ⟨F.W,0,none⟩)) ?_ (by subst hSp;exact rfl) (fun l' hl=>hjn l' hl (by decide) _)
    simp only [execOp,resolve,invoke,List.map_toArray,List.map_cons,List.map_nil,YT];go_simp
   ·have g_:x.eval (.tmp 120)=.bool true:=by have h_:=hI.dep haft 1 120 rfl rfl rfl;rw [hSp] at h_;exact h_
    refine mY rfl rfl rfl g_ (by rw [hsz];decide) ?_
    have YU:x.eval (.tmp 125)=.pointer (some ⟨F.W,0,none⟩):=by have h_:=hI.dep haft 6 125 rfl rfl rfl;rw [hSp] at h_;exact h_
    refine aO (v:=.pointer (some ⟨F.W,0,none⟩)) ?_ (by subst hSp;exact rfl) (fun l' hl=>hjn l' hl (by decide) _)
    simp only [execOp,resolve,invoke,List.map_toArray,List.map_cons,List.map_nil,YU];go_simp
   ·have g_:x.eval (.tmp 120)=.bool true:=by have h_:=hI.dep haft 1 120 rfl rfl rfl;rw [hSp] at h_;exact h_
    refine mY rfl rfl rfl g_ (by rw [hsz];decide) ?_
    have YV:x.eval (.tmp 126)=.pointer (some ⟨F.W,0,none⟩):=by have h_:=hI.dep haft 7 126 rfl rfl rfl;rw [hSp] at h_;exact h_
    have hk:=hJ.1 (hI.no hlf 15 rfl rfl)
    obtain ⟨r0,_⟩:=(R3.out.at_.quiet hk).xZ
    obtain ⟨u0,_⟩:=(R3.out.at_.quiet hk).qE
    obtain ⟨c0,c1,c2,_⟩:=yT.cells (dO.kept P3.out hk (fun h=>h))
    refine aO (v:=.pointer (some ⟨F.O,0,none⟩)) ?_ (by subst hSp;exact rfl) (fun l' hl=>hjn l' hl (by decide) _)
    simp only [execOp,resolve,invoke,List.map_toArray,List.map_cons,List.map_nil,YV];go_simp
   ·have g_:x.eval (.tmp 120)=.bool true:=by have h_:=hI.dep haft 1 120 rfl rfl rfl;rw [hSp] at h_;exact h_
    refine mY rfl rfl rfl g_ (by rw [hsz];decide) ?_
    have hk:=hJ.1 (hI.no hlf 15 rfl rfl)
    obtain ⟨r0,_⟩:=(R3.out.at_.quiet hk).xZ
    obtain ⟨u0,_⟩:=(R3.out.at_.quiet hk).qE
    obtain ⟨c0,c1,c2,_⟩:=yT.cells (dO.kept P3.out hk (fun h=>h))
    refine aO (v:=.agg #[.string tn,.string ⟨#[]⟩,.bool false]) ?_ (by subst hSp;exact rfl) (fun l' hl=>hjn l' hl (by decide) _)
    simp only [execOp,resolve,invoke,List.map_toArray,List.map_cons,List.map_nil,s9];go_simp
   ·have g_:x.eval (.tmp 120)=.bool true:=by have h_:=hI.dep haft 1 120 rfl rfl rfl;rw [hSp] at h_;exact h_
    refine mY rfl rfl rfl g_ (by rw [hsz];decide) ?_
    refine aO (v:=.string ⟨#[]⟩) ?_ (by subst hSp;exact rfl) (fun l' hl=>hjn l' hl (by decide) _)
    simp only [execOp,resolve,invoke,List.map_toArray,List.map_cons,List.map_nil,s11];go_simp
   ·have g_:x.eval (.tmp 120)=.bool true:=by have h_:=hI.dep haft 1 120 rfl rfl rfl;rw [hSp] at h_;exact h_
    refine mY rfl rfl rfl g_ (by rw [hsz];decide) ?_
    refine aO (v:=.string t) ?_ (by subst hSp;exact rfl) (fun l' hl=>hjn l' hl (by decide) _)
    simp only [execOp,resolve,invoke,List.map_toArray,List.map_cons,List.map_nil,s16];go_simp
   ·have g_:x.eval (.tmp 120)=.bool true:=by have h_:=hI.dep haft 1 120 rfl rfl rfl;rw [hSp] at h_;exact h_
    refine mY rfl rfl rfl g_ (by rw [hsz];decide) ?_
    have agG:x.eval (.tmp 129)=.string ⟨#[]⟩:=by have h_:=hI.dep haft 10 129 rfl rfl rfl;rw [hSp] at h_;exact h_
    have agH:x.eval (.tmp 130)=.string t:=by have h_:=hI.dep haft 11 130 rfl rfl rfl;rw [hSp] at h_;exact h_
    refine aO (v:=.string (⟨#[]⟩++t)) ?_ (by subst hSp;exact rfl) (fun l' hl=>hjn l' hl (by decide) _)
    simp only [execOp,resolve,invoke,List.map_toArray,List.map_cons,List.map_nil,agG,agH];go_simp;omega
   ·have g_:x.eval (.tmp 120)=.bool true:=by have h_:=hI.dep haft 1 120 rfl rfl rfl;rw [hSp] at h_;exact h_
    refine mY rfl rfl rfl g_ (by rw [hsz];decide) ?_
    refine aO (v:=.string ⟨#[]⟩) ?_ (by subst hSp;exact rfl) (fun l' hl=>hjn l' hl (by decide) _)
    simp only [execOp,resolve,invoke,List.map_toArray,List.map_cons,List.map_nil,s12];go_simp
   ·have g_:x.eval (.tmp 120)=.bool true:=by have h_:=hI.dep haft 1 120 rfl rfl rfl;rw [hSp] at h_;exact h_
    refine mY rfl rfl rfl g_ (by rw [hsz];decide) ?_
    have agI:x.eval (.tmp 131)=.string (⟨#[]⟩++t):=by have h_:=hI.dep haft 12 131 rfl rfl rfl;rw [hSp] at h_;exact h_
    have agJ:x.eval (.tmp 132)=.string ⟨#[]⟩:=by have h_:=hI.dep haft 13 132 rfl rfl rfl;rw [hSp] at h_;exact h_
    refine aO (v:=.string t) ?_ (by subst hSp;exact rfl) (fun l' hl=>hjn l' hl (by decide) _)
    simp only [execOp,resolve,invoke,List.map_toArray,List.map_cons,List.map_nil,agI,agJ];go_simp;omega
   ·have g_:x.eval (.tmp 120)=.bool true:=by have h_:=hI.dep haft 1 120 rfl rfl rfl;rw [hSp] at h_;exact h_
    refine mY rfl rfl rfl g_ (by rw [hsz];decide) ?_
    have YW:x.eval (.tmp 127)=.pointer (some ⟨F.O,0,none⟩):=by have h_:=hI.dep haft 8 127 rfl rfl rfl;rw [hSp] at h_;exact h_
    have agK:x.eval (.tmp 128)=.agg #[.string tn,.string ⟨#[]⟩,.bool false]:=by have h_:=hI.dep haft 9 128 rfl rfl rfl;rw [hSp] at h_;exact h_
    have agL:x.eval (.tmp 133)=.string t:=by have h_:=hI.dep haft 14 133 rfl rfl rfl;rw [hSp] at h_;exact h_
    have hk:=hJ.1 hlf
    refine Aq (f:=71) (args:=#[.pointer (some ⟨F.O,0,none⟩),.agg #[.string tn,.string ⟨#[]⟩,.bool false],.string t]) (by simp only [execOp,resolve,invoke,List.map_toArray,List.map_cons,List.map_nil,YW,agK,agL];go_simp) ((HWR.out _ hk).mono ?_)
    rintro e w4 ⟨rfl,ov4,r_⟩
    refine ⟨_,rfl,by subst hSp;exact rfl,r_.kept,fun l' hl=>?_⟩
    rw [hJd];exact ⟨fun e=>(by rw [iV hl] at e;cases e),fun _=>⟨ov4,R3.out.trans (bI.after hk r_)⟩⟩
   ·refine aU rfl ?_
    have YX:x.eval (.tmp 120)=.bool true:=by have h_:=hI.dep haft 1 120 rfl rfl rfl;rw [hSp] at h_;exact h_
    have agM:x.eval (.tmp 134)=.bool (gU S1 tn t).1:=by have h_:=hI.dep haft 15 134 rfl rfl rfl;rw [hSp] at h_;exact h_
    refine aO (v:=.bool (gU S1 tn t).1) ?_ (by subst hSp;exact rfl) (fun l' hl=>hjn l' hl (by decide) _)
    simp only [execOp,resolve,invoke,List.map_toArray,List.map_cons,List.map_nil,YX,agM];go_simp
   ·refine aU rfl ?_
    have agN:x.eval (.tmp 135)=.bool (gU S1 tn t).1:=by have h_:=hI.dep haft 16 135 rfl rfl rfl;rw [hSp] at h_;exact h_
    refine aO (v:=.bool (gU S1 tn t).1) ?_ (by subst hSp;exact rfl) (fun l' hl=>hjn l' hl (by decide) _)
    simp only [execOp,resolve,invoke,List.map_toArray,List.map_cons,List.map_nil,agN];go_simp
  ·intro lq hl
   rw [hJd];exact ⟨fun _=>(Kept.refl aB _).drew,fun e=>by rw [hl 15 (by decide)] at e;cases e⟩
  ·intro lq l' f wx hl h
   rw [hJd] at h⊢;dsimp only at h⊢;rw [←hl 15 (by decide)];exact h
  ·intro f wy hK hS hJ
   rw [hJd] at hJ
   have hJ:=hJ.2 rfl
   simp only [iI,List.foldl_cons,List.foldl_nil,List.setIfInBounds_toArray,List.set_cons_zero,List.set_cons_succ]
   obtain ⟨ov4,R4⟩:=hJ
   have e4:f 4=.bool (gU S1 tn t).1:=by have h_:=hS 17 _ _ rfl rfl;rw [hSp] at h_;exact h_
   rw [e4]
   go_wp2_with fail
   go_ret
   exact ⟨by rw [fin.out];rfl,ov4,by rw [fin.out];exact R4⟩
end
end Go.Proofs.YtgoijmpahffnhaaGreatDoor
