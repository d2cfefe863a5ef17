/-  -/
import Derived.Test.YtodebjhalipefaaGreatDoorLr7
import Derived.Test.YtodebjhalipefaaGreatDoorLq19
import Derived.Test.YtodebjhalipefaaGreatDoorLq14
import Derived.Test.YtodebjhalipefaaGreatDoorLq24
import Derived.BigQuiet
namespace Go.Proofs.YtodebjhalipefaaGreatDoor
set_option linter.all false
open Go.RowKit
set_option maxRecDepth 100000
set_option maxHeartbeats 4000000
theorem eval_any (F:dG) (nb:aj→Bool) (kb:Int→Bool) (BH:BR F nb kb) (h4:kb 4=false) (Sx:Nat→Prop) (hsx:∀b,Sx b→b<F.N) :
  ∀(m:Nat) (x:aB) (b o:Nat) (ov:Value) (S:aW) (w:World),sizeT x≤m→aY F ov S w→bG S→aU w Sx b o x→rD nb kb x=true→
   Calls Tryz.prog 82 #[.pointer (some ⟨F.R,0,none⟩),.pointer (some ⟨b,o,none⟩)] w (EvQ F ov w (iK x S)):=by
 intro m
 induction m with
 | zero=>intro x b o ov S w hm;cases x;simp [sizeT] at hm
 | succ m ih =>
  rintro ⟨k,t,n,nm,kids⟩ b o ov S w hm h ok hx hk
  by_cases k1:k=1
  ·subst k1;exact ac1 F ov S Sx t n nm kids b o w h hx
  by_cases k2:k=2
  ·subst k2
   rw [rD,if_neg (by decide),if_pos rfl,Bool.and_eq_true] at hk
   exact aeC F nb kb BH ov S Sx t n nm kids b o w h hx hk.1 (of_decide_eq_true hk.2)
  by_cases k3:k=3
  ·subst k3;exact ac2 F ov S Sx t n nm kids b o w h hsx hx
  have hk0:=hk
  rw [rD,if_neg k1,if_neg k2,if_neg k3,Bool.and_eq_true] at hk
  have h6:6≤k∧k≤13:=by
   have h2:=hk.2
   split at h2
   ·rw [h4] at h2;cases h2
   split at h2
   ·omega
   split at h2
   ·omega
   ·rw [Bool.and_eq_true] at h2;have:=of_decide_eq_true h2.2;omega
  exact ac4 F nb kb BH ov S Sx k t n nm kids b o w h hsx h6 hk0 ok hx fun j hj b' o' qC S' w' hr hok hp=>ih kids[j] b' o' qC S' w' (by have:=oQ kids j hj;simp only [sizeT] at hm;omega) hr hok hp (Fb hk.1 j hj)
theorem uo {w:World} {Sx:Nat→Prop} {b o:Nat} {s:aF} (h:zV w Sx b o s):w.cell? ⟨b,o+1,none⟩=some (.int .i64 s.kind)∧aU w Sx b (o+2) s.target∧aU w Sx b (o+7) s.value∧sizeT s.value≤1048576∧s.target.name.size<1000000000∧
  w.cell? ⟨b,o+21,none⟩=some (.string s.always)∧w.cell? ⟨b,o+22,none⟩=some (.string s.yes)∧w.cell? ⟨b,o+23,none⟩=some (.string s.bU):=by
 obtain ⟨a,hb,hz,hc,ho⟩:=h
 exact ⟨hc 1 (by decide),xW hb hz.target.z (hc 2 (by decide)) (hc 3 (by decide)) (hc 4 (by decide)) (hc 5 (by decide)) (hc 6 (by decide)) ho.target,
  xW hb hz.value.z (hc 7 (by decide)) (hc 8 (by decide)) (hc 9 (by decide)) (hc 10 (by decide)) (hc 11 (by decide)) ho.value,hz.value.t,hz.target.z.2.1,hc 21 (by decide),hc 22 (by decide),hc 23 (by decide)⟩
section
variable (F:dG) (nb:aj→Bool) (kb:Int→Bool) (BH:BR F nb kb) (h4:kb 4=false) (ov:Value) (S:aW) (Sx:Nat→Prop) (s:aF) (b o:Nat) (w:World) (h:aY F ov S w) (ok:bG S) (hsx:∀b,Sx b→b<F.N) (hx:zV w Sx b o s)
include h hx
theorem ac5 (hk:s.kind=1):Calls Tryz.prog 44 #[.pointer (some ⟨F.R,0,none⟩),.pointer (some ⟨b,o,none⟩)] w (sG F ov w (l7 s S)):=by
 obtain ⟨q0,_⟩:=uo hx
 have fin:Hid (l7 s S=(true,S)):=by unfold Hid l7;rw [if_neg (by omega),if_neg (by omega)]
 rw [hk] at q0
 have H:=ah h
 clear h hx hk
 go_enter Tryz.func44, Tryz.ntmps44
 go_wp2_with fail
 go_ret
 exact ⟨by rw [fin.out];rfl,ov,by rw [fin.out];exact bf.refl H.out⟩
include BH h4 hsx ok
theorem ac6 (hk:s.kind=2) (hoe:rD nb kb s.value=true):Calls Tryz.prog 44 #[.pointer (some ⟨F.R,0,none⟩),.pointer (some ⟨b,o,none⟩)] w (sG F ov w (l7 s S)):=by
 obtain ⟨q0,_,hv,hz,_⟩:=uo hx
 have fin:Hid (l7 s S=((iK s.value S).1.isSome,(iK s.value S).2)):=by unfold Hid l7;rw [if_pos hk]
 have HE:=ah (eval_any F nb kb BH h4 Sx hsx _ s.value b (o+7) ov S w hz h ok hv hoe)
 rw [hk] at q0
 clear h hx hk hv BH h4
 go_enter Tryz.func44, Tryz.ntmps44
 go_wp2_with (go_at_call 82;(with_reducible refine HE.out.mono ?_);rintro e w2 ⟨rfl,kW,r_⟩;have R2:=ah r_;clear r_)
 go_ret
 exact ⟨by rw [fin.out];rfl,kW,by rw [fin.out];exact R2.out⟩
theorem WI (hk:s.kind=3) (hoe:rD nb kb s.value=true) (ht:s.target.kind=3):Calls Tryz.prog 44 #[.pointer (some ⟨F.R,0,none⟩),.pointer (some ⟨b,o,none⟩)] w (sG F ov w (l7 s S)):=by
 obtain ⟨q0,hg,_,hz,hnz,_⟩:=uo hx
 have hsf:Safe Sx aA w.heap.size:=fun b hb=>⟨Nat.lt_of_lt_of_le (hsx b hb) h.oJ.low,fun h=>h⟩
 have HP:=ah (Gu F ov S Sx s.target b (o+2) w h hg hsf ht)
 have hpf:nT s.target S=(some ⟨s.target.name,⟨#[]⟩,false⟩,S):=if_pos ht
 have Ry:=ah hpf
 have HEV:Hid (∀dU wx,aY F dU S wx→Kept (RX F ov) w wx→Calls Tryz.prog 82 #[.pointer (some ⟨F.R,0,none⟩),.pointer (some ⟨b,o+7,none⟩)] wx (EvQ F dU wx (iK s.value S))):=fun dU wx hr hk=>by
  have:=hx.to hk (fun b hb=>⟨(hsf b hb).1,fun hc=>by have:=(h.xlt hc).1;have:=hsx b hb;omega⟩) (fun _ h=>h)
  obtain ⟨_,_,hv,_⟩:=uo this
  exact eval_any F nb kb BH h4 Sx hsx _ s.value b (o+7) dU S wx hz hr ok hv hoe
 have hev:=ah (Gn (nb:=nb) (kb:=kb) s.value S hoe ok)
 have hxk:Hid (∀wx,Kept (RX F ov) w wx→wx.cell? ⟨b,o+1,none⟩=some (.int .i64 3)):=fun wx hk2=>by
  have:=hx.to hk2 (fun b hb=>⟨(hsf b hb).1,fun hc=>by have:=(h.xlt hc).1;have:=hsx b hb;omega⟩) (fun _ h=>h)
  rw [(uo this).1,hk]
 obtain ⟨tn,htn⟩:∃tn,tn=s.target.name:=⟨_,rfl⟩
 rw [←htn] at Ry hpf hnz
 rw [hk] at q0
 have hd:l7 s S=(match iK s.value S with
   | (none,w2)=>(false,w2)
   | (some t,w2)=>fU w2 tn t):=by
  unfold l7
  rw [if_neg (by omega),if_pos hk,hpf]
  rfl
 have HD:=ah hd
 have H:=ah h
 clear h hx hk hg hsf BH h4 ok hoe ht htn hpf hd
 go_enter Tryz.func44, Tryz.ntmps44
 go_upto_region 14 with (go_at_call 84;(with_reducible refine HP.out.mono ?_);rintro e w1 ⟨⟨p_,rfl,NG⟩,dU,r_⟩;rw [Ry.out] at r_ NG;obtain rfl:=NG _ rfl;rw [Ry.out];dsimp only [Option.isSome];have R1:=ah r_;clear r_ NG)
 obtain ⟨w2,hw2⟩:∃w2,w2=w1.alloc (.cells #[.string tn,.string ⟨#[]⟩,.bool false] 161):=⟨_,rfl⟩
 obtain ⟨B,hB⟩:∃B,B=w1.heap.size:=⟨_,rfl⟩
 have hb:yh B tn ⟨#[]⟩ false w2:=by rw [hw2,hB];exact dI.new _ _ _
 have k2:Kept aA w1 w2:=by rw [hw2];exact (Kept.refl aA w1).alloc _
 rw [←hw2,←hB]
 have R2:=R1.out.quiet k2
 have hBx:¬RX F dU B:=R1.out.at_.mine (by rw [hB];exact Nat.le_refl _)
 have HE:=ah (HEV.out dU w2 R2.at_ R2.kept)
 have q1:=hxk.out w2 R2.kept
 have HR2:=ah R2;have HPL:=ah hb;have HBX:=ah hBx
 clear hw2 hB hb k2 R2 R1 hBx q0
 cases he:iK s.value S with
 | mk r1 S1 =>
 rw [he] at HE HD hev
 cases r1 with
 | none =>
  go_wp2_with (go_at_call 82;(with_reducible refine HE.out.mono ?_);rintro e w3 ⟨rfl,BX,r_⟩;dsimp only [Option.getD,Option.isSome] at r_⊢;have R3:=ah (HR2.out.trans r_);clear r_)
  have fin:Hid (l7 s S=(false,S1)):=HD.out
  go_quiet (fail)
  go_wp2_with fail
  go_ret
  exact ⟨by rw [fin.out];rfl,BX,by rw [fin.out];exact R3.out.quiet ((Kept.refl aA _).drewN _)⟩
 | some t =>
  have hS1:=hev.out.1
  have htz:t.size≤65536:=hev.out.2 t rfl
  have fin:Hid (l7 s S=fU S1 tn t):=HD.out
  have Rz:=ah hS1
  have het:(⟨#[]⟩++t:aj)++(⟨#[]⟩:aj)=t:=by
   apply ByteArray.ext
   simp
  have aik:Hid (∀BX w3 wx,bf F ov w BX S1 w3→Kept aA w3 wx→Calls Tryz.prog 86 #[.pointer (some ⟨F.O,0,none⟩),.agg #[.string tn,.string ⟨#[]⟩,.bool false],.string t] wx (sG F BX wx (fU S1 tn t))):=fun BX w3 wx hr hk =>
   write_any F BX S1 tn ⟨#[]⟩ t wx (hr.at_.quiet hk) Rz.out (by omega) (by omega)
  clear hS1
  go_upto_region 26 with (go_at_call 82;(with_reducible refine HE.out.mono ?_);rintro e w3 ⟨rfl,BX,r_⟩;dsimp only [Option.getD,Option.isSome] at r_⊢;have R3:=ah (HR2.out.trans r_);have P3:=ah (dI.kept HPL.out r_.kept HBX.out);clear r_)
  have HWR:=ah (fun wx hk=>aik.out BX w3 wx R3.out hk)
  obtain ⟨Sp,hSp⟩:∃Sp:Nat→Value→World→Prop,Sp=(fun i v wx=>match i with
   | 0=>v=.bool true
   | 1=>v=.bool true
   | 2=>v=.pointer (some ⟨F.R,0,none⟩)
   | 3=>v=.pointer (some ⟨F.R,0,none⟩)
   | 4=>v=.pointer (some ⟨F.R,0,none⟩)
   | 5=>v=.pointer (some ⟨F.W,0,none⟩)
   | 6=>v=.pointer (some ⟨F.W,0,none⟩)
   | 7=>v=.pointer (some ⟨F.W,0,none⟩)
   | 8=>v=.pointer (some ⟨F.O,0,none⟩)
   | 9=>v=.agg #[.string tn,.string ⟨#[]⟩,.bool false]
   | 10=>v=.string ⟨#[]⟩
   | 11=>v=.string t
   | 12=>v=.string (⟨#[]⟩++t)
   | 13=>v=.string ⟨#[]⟩
   | 14=>v=.string t
   | 15=>v=.bool (fU S1 tn t).1
   | 16=>v=.bool (fU S1 tn t).1
   | _=>v=.bool (fU S1 tn t).1):=⟨_,rfl⟩
  obtain ⟨J,hJd⟩:∃J:(Nat→Bool)→(Nat→Value)→World→Prop,J=(fun l f wx=>(l 15=false→Kept aA w3 wx)∧(l 15=true→(fun wx=>∃qC,bf F ov w qC (fU S1 tn t).2 wx) wx)):=⟨_,rfl⟩
  refine iU (RX F BX) J Sp [119,120,121,122,123,124,125,126,127,128,129,130,131,132,133,134,135,4] (by kernel_rfl) (by kernel_rfl) (by kernel_rfl) (fun i v w w' h hk=>by subst hSp;exact h) ?_ ?_ ?_ ?_
  ·intro i o hi lq x wy hI hJ hlf haft
   rw [hJd] at hJ
   have hsz:x.tmps.size=151:=hI.size
   have s0:x.eval (.tmp 0)=.pointer (some ⟨F.R,0,none⟩):=hI.keep 0 _ rfl (by kernel_rfl)
   have s9:x.eval (.tmp 9)=.pointer (some ⟨B,0,none⟩):=hI.keep 9 _ rfl (by kernel_rfl)
   have s10:x.eval (.tmp 10)=.bool true:=hI.keep 10 _ rfl (by kernel_rfl)
   have s11:x.eval (.tmp 11)=.string ⟨#[]⟩:=hI.keep 11 _ rfl (by kernel_rfl)
   have s12:x.eval (.tmp 12)=.string ⟨#[]⟩:=hI.keep 12 _ rfl (by kernel_rfl)
   have s16:x.eval (.tmp 16)=.string t:=hI.keep 16 _ rfl (by kernel_rfl)
   have hjn:∀(l':Nat→Bool),(∀j,l' j=true↔j=i∨lq j=true)→i≠15→∀f,J l' f wy:=by
    intro l' hl hne f
    have e:=upd_ne hl 15 (Ne.symm hne)
    rw [hJd];show (l' 15=false→_)∧(l' 15=true→_)
    rw [e];exact hJ
   rcases i with _|_|_|_|_|_|_|_|_|_|_|_|_|_|_|_|_|_|i
   all_goals (simp only [List.getElem?_toArray,List.getElem?_cons_zero,List.getElem?_cons_succ,List.getElem?_nil,Option.some.injEq,reduceCtorEq] at hi)
   all_goals subst hi
   ·refine aT rfl ?_
    refine aK (v:=.bool true) ?_ (by subst hSp;exact rfl) (fun l' hl=>hjn l' hl (by decide) _)
    simp only [execOp,resolve,invoke,List.map_toArray,List.map_cons,List.map_nil,s10];go_simp
   ·refine aT rfl ?_
    have aah:x.eval (.tmp 119)=.bool true:=by have h_:=hI.dep haft 0 119 rfl rfl rfl;rw [hSp] at h_;exact h_
    refine aK (v:=.bool true) ?_ (by subst hSp;exact rfl) (fun l' hl=>hjn l' hl (by decide) _)
    simp only [execOp,resolve,invoke,List.map_toArray,List.map_cons,List.map_nil,aah];go_simp
   ·have g_:x.eval (.tmp 120)=.bool true:=by have h_:=hI.dep haft 1 120 rfl rfl rfl;rw [hSp] at h_;exact h_
    refine kY rfl rfl rfl g_ (by rw [hsz];decide) ?_
    refine aK (v:=.pointer (some ⟨F.R,0,none⟩)) ?_ (by subst hSp;exact rfl) (fun l' hl=>hjn l' hl (by decide) _)
    simp only [execOp,resolve,invoke,List.map_toArray,List.map_cons,List.map_nil,s0];go_simp
   ·have g_:x.eval (.tmp 120)=.bool true:=by have h_:=hI.dep haft 1 120 rfl rfl rfl;rw [hSp] at h_;exact h_
    refine kY rfl rfl rfl g_ (by rw [hsz];decide) ?_
    have aai:x.eval (.tmp 121)=.pointer (some ⟨F.R,0,none⟩):=by have h_:=hI.dep haft 2 121 rfl rfl rfl;rw [hSp] at h_;exact h_
    refine aK (v:=.pointer (some ⟨F.R,0,none⟩)) ?_ (by subst hSp;exact rfl) (fun l' hl=>hjn l' hl (by decide) _)
    simp only [execOp,resolve,invoke,List.map_toArray,List.map_cons,List.map_nil,aai];go_simp
   ·have g_:x.eval (.tmp 120)=.bool true:=by have h_:=hI.dep haft 1 120 rfl rfl rfl;rw [hSp] at h_;exact h_
    refine kY rfl rfl rfl g_ (by rw [hsz];decide) ?_
    have aaj:x.eval (.tmp 122)=.pointer (some ⟨F.R,0,none⟩):=by have h_:=hI.dep haft 3 122 rfl rfl rfl;rw [hSp] at h_;exact h_
    refine aK (v:=.pointer (some ⟨F.R,0,none⟩)) ?_ (by subst hSp;exact rfl) (fun l' hl=>hjn l' hl (by decide) _)
    simp only [execOp,resolve,invoke,List.map_toArray,List.map_cons,List.map_nil,aaj];go_simp
   ·have g_:x.eval (.tmp 120)=.bool true:=by have h_:=hI.dep haft 1 120 rfl rfl rfl;rw [hSp] at h_;exact h_
    refine kY rfl rfl rfl g_ (by rw [hsz];decide) ?_
    have aak:x.eval (.tmp 123)=.pointer (some ⟨F.R,0,none⟩):=by have h_:=hI.dep haft 4 123 rfl rfl rfl;rw [hSp] at h_;exact h_
    have hk:=hJ.1 (hI.no (hI.no (hI.no (hI.no hlf 6 rfl rfl) 7 rfl rfl) 8 rfl rfl) 15 rfl rfl)
    obtain ⟨r0,_⟩:=(R3.out.at_.quiet hk).wW
    obtain ⟨u0,_⟩:=(R3.out.at_.quiet hk).oW
    obtain ⟨c0,c1,c2,_⟩:=yh.cells (dI.kept P3.out hk (fun h=>h))
    refine aK (v:=.pointer (some ⟨F.W,0,none⟩)) ?_ (by subst hSp;exact rfl) (fun l' hl=>hjn l' hl (by decide) _)
    simp only [execOp,resolve,invoke,List.map_toArray,List.map_cons,List.map_nil,aak];go_simp
   ·have g_:x.eval (.tmp 120)=.bool true:=by have h_:=hI.dep haft 1 120 rfl rfl rfl;rw [hSp] at h_;exact h_
    refine kY rfl rfl rfl g_ (by rw [hsz];decide) ?_
    have aal:x.eval (.tmp 124)=.pointer (some ⟨F.W,0,none⟩):=by have h_:=hI.dep haft 5 124 rfl rfl rfl;rw [hSp] at h_;exact h_
    refine aK (v:=.pointer (some ⟨F.W,0,none⟩)) ?_ (by subst hSp;exact rfl) (fun l' hl=>hjn l' hl (by decide) _)
    simp only [execOp,resolve,invoke,List.map_toArray,List.map_cons,List.map_nil,aal];go_simp
   ·have g_:x.eval (.tmp 120)=.bool true:=by have h_:=hI.dep haft 1 120 rfl rfl rfl;rw [hSp] at h_;exact h_
    refine kY rfl rfl rfl g_ (by rw [hsz];decide) ?_
    have aam:x.eval (.tmp 125)=.pointer (some ⟨F.W,0,none⟩):=by have h_:=hI.dep haft 6 125 rfl rfl rfl;rw [hSp] at h_;exact h_
    refine aK (v:=.pointer (some ⟨F.W,0,none⟩)) ?_ (by subst hSp;exact rfl) (fun l' hl=>hjn l' hl (by decide) _)
    simp only [execOp,resolve,invoke,List.map_toArray,List.map_cons,List.map_nil,aam];go_simp
   ·have g_:x.eval (.tmp 120)=.bool true:=by have h_:=hI.dep haft 1 120 rfl rfl rfl;rw [hSp] at h_;exact h_
    refine kY rfl rfl rfl g_ (by rw [hsz];decide) ?_
    have aan:x.eval (.tmp 126)=.pointer (some ⟨F.W,0,none⟩):=by have h_:=hI.dep haft 7 126 rfl rfl rfl;rw [hSp] at h_;exact h_
    have hk:=hJ.1 (hI.no hlf 15 rfl rfl)
    obtain ⟨r0,_⟩:=(R3.out.at_.quiet hk).wW
    obtain ⟨u0,_⟩:=(R3.out.at_.quiet hk).oW
    obtain ⟨c0,c1,c2,_⟩:=yh.cells (dI.kept P3.out hk (fun h=>h))
    refine aK (v:=.pointer (some ⟨F.O,0,none⟩)) ?_ (by subst hSp;exact rfl) (fun l' hl=>hjn l' hl (by decide) _)
    simp only [execOp,resolve,invoke,List.map_toArray,List.map_cons,List.map_nil,aan];go_simp
   ·have g_:x.eval (.tmp 120)=.bool true:=by have h_:=hI.dep haft 1 120 rfl rfl rfl;rw [hSp] at h_;exact h_
    refine kY rfl rfl rfl g_ (by rw [hsz];decide) ?_
    have hk:=hJ.1 (hI.no hlf 15 rfl rfl)
    obtain ⟨r0,_⟩:=(R3.out.at_.quiet hk).wW
    obtain ⟨u0,_⟩:=(R3.out.at_.quiet hk).oW
    obtain ⟨c0,c1,c2,_⟩:=yh.cells (dI.kept P3.out hk (fun h=>h))
    refine aK (v:=.agg #[.string tn,.string ⟨#[]⟩,.bool false]) ?_ (by subst hSp;exact rfl) (fun l' hl=>hjn l' hl (by decide) _)
    simp only [execOp,resolve,invoke,List.map_toArray,List.map_cons,List.map_nil,s9];go_simp
   ·have g_:x.eval (.tmp 120)=.bool true:=by have h_:=hI.dep haft 1 120 rfl rfl rfl;rw [hSp] at h_;exact h_
    refine kY rfl rfl rfl g_ (by rw [hsz];decide) ?_
    refine aK (v:=.string ⟨#[]⟩) ?_ (by subst hSp;exact rfl) (fun l' hl=>hjn l' hl (by decide) _)
    simp only [execOp,resolve,invoke,List.map_toArray,List.map_cons,List.map_nil,s11];go_simp
   ·have g_:x.eval (.tmp 120)=.bool true:=by have h_:=hI.dep haft 1 120 rfl rfl rfl;rw [hSp] at h_;exact h_
    refine kY rfl rfl rfl g_ (by rw [hsz];decide) ?_
    refine aK (v:=.string t) ?_ (by subst hSp;exact rfl) (fun l' hl=>hjn l' hl (by decide) _)
    simp only [execOp,resolve,invoke,List.map_toArray,List.map_cons,List.map_nil,s16];go_simp
   ·have g_:x.eval (.tmp 120)=.bool true:=by have h_:=hI.dep haft 1 120 rfl rfl rfl;rw [hSp] at h_;exact h_
    refine kY rfl rfl rfl g_ (by rw [hsz];decide) ?_
    have ail:x.eval (.tmp 129)=.string ⟨#[]⟩:=by have h_:=hI.dep haft 10 129 rfl rfl rfl;rw [hSp] at h_;exact h_
    have ain:x.eval (.tmp 130)=.string t:=by have h_:=hI.dep haft 11 130 rfl rfl rfl;rw [hSp] at h_;exact h_
    refine aK (v:=.string (⟨#[]⟩++t)) ?_ (by subst hSp;exact rfl) (fun l' hl=>hjn l' hl (by decide) _)
    simp only [execOp,resolve,invoke,List.map_toArray,List.map_cons,List.map_nil,ail,ain];go_simp;omega
   ·have g_:x.eval (.tmp 120)=.bool true:=by have h_:=hI.dep haft 1 120 rfl rfl rfl;rw [hSp] at h_;exact h_
    refine kY rfl rfl rfl g_ (by rw [hsz];decide) ?_
    refine aK (v:=.string ⟨#[]⟩) ?_ (by subst hSp;exact rfl) (fun l' hl=>hjn l' hl (by decide) _)
    simp only [execOp,resolve,invoke,List.map_toArray,List.map_cons,List.map_nil,s12];go_simp
   ·have g_:x.eval (.tmp 120)=.bool true:=by have h_:=hI.dep haft 1 120 rfl rfl rfl;rw [hSp] at h_;exact h_
    refine kY rfl rfl rfl g_ (by rw [hsz];decide) ?_
    have aio:x.eval (.tmp 131)=.string (⟨#[]⟩++t):=by have h_:=hI.dep haft 12 131 rfl rfl rfl;rw [hSp] at h_;exact h_
    have aip:x.eval (.tmp 132)=.string ⟨#[]⟩:=by have h_:=hI.dep haft 13 132 rfl rfl rfl;rw [hSp] at h_;exact h_
    refine aK (v:=.string t) ?_ (by subst hSp;exact rfl) (fun l' hl=>hjn l' hl (by decide) _)
    simp only [execOp,resolve,invoke,List.map_toArray,List.map_cons,List.map_nil,aio,aip];go_simp;omega
   ·have g_:x.eval (.tmp 120)=.bool true:=by have h_:=hI.dep haft 1 120 rfl rfl rfl;rw [hSp] at h_;exact h_
    refine kY rfl rfl rfl g_ (by rw [hsz];decide) ?_
    have aao:x.eval (.tmp 127)=.pointer (some ⟨F.O,0,none⟩):=by have h_:=hI.dep haft 8 127 rfl rfl rfl;rw [hSp] at h_;exact h_
    have aiq:x.eval (.tmp 128)=.agg #[.string tn,.string ⟨#[]⟩,.bool false]:=by have h_:=hI.dep haft 9 128 rfl rfl rfl;rw [hSp] at h_;exact h_
    have air:x.eval (.tmp 133)=.string t:=by have h_:=hI.dep haft 14 133 rfl rfl rfl;rw [hSp] at h_;exact h_
    have hk:=hJ.1 hlf
    refine zY (f:=86) (args:=#[.pointer (some ⟨F.O,0,none⟩),.agg #[.string tn,.string ⟨#[]⟩,.bool false],.string t]) (by simp only [execOp,resolve,invoke,List.map_toArray,List.map_cons,List.map_nil,aao,aiq,air];go_simp) ((HWR.out _ hk).mono ?_)
    rintro e w4 ⟨rfl,ov4,r_⟩
    refine ⟨_,rfl,by subst hSp;exact rfl,r_.kept,fun l' hl=>?_⟩
    rw [hJd];exact ⟨fun e=>(by rw [iq hl] at e;cases e),fun _=>⟨ov4,R3.out.trans (bf.after hk r_)⟩⟩
   ·refine aT rfl ?_
    have aap:x.eval (.tmp 120)=.bool true:=by have h_:=hI.dep haft 1 120 rfl rfl rfl;rw [hSp] at h_;exact h_
    have ais:x.eval (.tmp 134)=.bool (fU S1 tn t).1:=by have h_:=hI.dep haft 15 134 rfl rfl rfl;rw [hSp] at h_;exact h_
    refine aK (v:=.bool (fU S1 tn t).1) ?_ (by subst hSp;exact rfl) (fun l' hl=>hjn l' hl (by decide) _)
    simp only [execOp,resolve,invoke,List.map_toArray,List.map_cons,List.map_nil,aap,ais];go_simp
   ·refine aT rfl ?_
    have ait:x.eval (.tmp 135)=.bool (fU S1 tn t).1:=by have h_:=hI.dep haft 16 135 rfl rfl rfl;rw [hSp] at h_;exact h_
    refine aK (v:=.bool (fU S1 tn t).1) ?_ (by subst hSp;exact rfl) (fun l' hl=>hjn l' hl (by decide) _)
    simp only [execOp,resolve,invoke,List.map_toArray,List.map_cons,List.map_nil,ait];go_simp
  ·intro lq hl
   rw [hJd];exact ⟨fun _=>(Kept.refl aA _).drew,fun e=>by rw [hl 15 (by decide)] at e;cases e⟩
  ·intro lq l' f wx hl h
   rw [hJd] at h⊢;dsimp only at h⊢;rw [←hl 15 (by decide)];exact h
  ·intro f wy hK hS hJ
   rw [hJd] at hJ
   have hJ:=hJ.2 rfl
   simp only [gQ,List.foldl_cons,List.foldl_nil,List.setIfInBounds_toArray,List.set_cons_zero,List.set_cons_succ]
   obtain ⟨ov4,R4⟩:=hJ
   have e4:f 4=.bool (fU S1 tn t).1:=by have h_:=hS 17 _ _ rfl rfl;rw [hSp] at h_;exact h_
   rw [e4]
   go_wp2_with fail
   go_ret
   exact ⟨by rw [fin.out];rfl,ov4,by rw [fin.out];exact R4⟩
end
end Go.Proofs.YtodebjhalipefaaGreatDoor

namespace Go.Proofs.YtodebjhalipefaaGreatDoor
set_option linter.all false
open Go.RowKit
set_option maxRecDepth 100000
set_option maxHeartbeats 1000000
theorem aY.setW {F:dG} {ov:Value} {S S':aW} {w:World} {i:Nat} {v:Value} (h:aY F ov S w) (hset:(Fg F S).set i v=Fg F S') (e0:∀a c,Fe F ov S' a c=Fe F ov S a c) (e1:S'.input=S.input) (e2:S'.output=S.output) (e3:S'.vars=S.vars) (e4:S'.items=S.items) :
  bf F ov w ov S' (w.setCell ⟨F.W,i,none⟩ v):=by
 have k:Kept (· = F.W) w (w.setCell ⟨F.W,i,none⟩ v):=(Kept.refl (· = F.W) w).setCell (p:=⟨F.W,i,none⟩) (.inl rfl) _
 obtain ⟨n1,n2,n3,n4,n5,m1,m2,m3,m4,-⟩:=h.fix.ne
 obtain ⟨hs,h1,h2⟩:=h.hits
 obtain ⟨a,c,h3,h4,h5⟩:=h.BQ
 have hW:=h.fix.nW
 refine ⟨⟨h.oJ.kept k (fun b hb=>by have:b=F.W:=hb;omega),h.fix,Nat.le_trans h.sz k.size,h.run.kept k (fun e=>m1 e.symm),by rw [←hset];exact h.BP.set i v,⟨hs,h1,h2.kept k (fun e=>m4 e.symm)⟩,
  ⟨a,c,by rw [e0];exact h3.kept k n1,by rw [e1];exact rE h4 k h.oJ.low (fun b hb=>by have:b=F.W:=hb;omega),by rw [e1];exact h5⟩,?_,by rw [e3];exact h.vars.kept k (fun e=>m2 e.symm),by rw [e4];exact h.items.kept k (fun e=>m3 e.symm)⟩,k.more (fun _ h=>.inr (.inl h)),fun _ h=>.inl h⟩
 rw [e2]
 exact h.out.kept k (fun b hb e=>by have e:b=F.W:=e;have:=h.out.lt b hb;omega)
theorem aY.aaq {F:dG} {ov:Value} {S:aW} {w:World} (h:aY F ov S w):bf F ov w ov (tick S) (w.setCell ⟨F.W,2,none⟩ (.int .i64 ((S.steps:Int)+1))) :=
 h.setW (S':=tick S) (by unfold Fg tick;simp) (fun _ _=>rfl) rfl rfl rfl rfl
theorem aY.aeH {F:dG} {ov:Value} {S:aW} {w:World} (h:aY F ov S w) (i:Nat) (n:Int):bf F ov w ov S (w.setCell ⟨F.H,i,none⟩ (.int .i64 n)):=by
 have k:Kept (· = F.H) w (w.setCell ⟨F.H,i,none⟩ (.int .i64 n)):=(Kept.refl (· = F.H) w).setCell (p:=⟨F.H,i,none⟩) (.inl rfl) _
 obtain ⟨n1,n2,n3,n4,n5,m1,m2,m3,m4,p1,p2,p3,r1,r2,r3⟩:=h.fix.ne
 obtain ⟨hs,h1,h2⟩:=h.hits
 obtain ⟨a,c,h3,h4,h5⟩:=h.BQ
 have hH:=h.fix.nH
 refine ⟨⟨h.oJ.kept k (fun b hb=>by have:b=F.H:=hb;omega),h.fix,Nat.le_trans h.sz k.size,h.run.kept k p3,h.BP.kept k m4,⟨hs.set i n,by simpa using h1,by rw [List.map_set];exact h2.set i _⟩,
  ⟨a,c,h3.kept k n5,rE h4 k h.oJ.low (fun b hb=>by have:b=F.H:=hb;omega),h5⟩,?_,h.vars.kept k r2,h.items.kept k r3⟩,k.more (fun _ h=>.inr (.inr (.inr (.inr (.inl h))))),fun _ h=>.inl h⟩
 exact h.out.kept k (fun b hb e=>by have e:b=F.H:=e;have:=h.out.lt b hb;omega)
theorem aY.hit {F:dG} {ov:Value} {S:aW} {w:World} (h:aY F ov S w) {i:Nat} (hi:i<F.l.length):∃n,w.cell? ⟨F.H,i,none⟩=some (.int .i64 n)∧w.frozen? ⟨F.H,i,none⟩=false:=by
 obtain ⟨hs,h1,h2⟩:=h.hits
 exact ⟨hs[i],h2.cell (by rw [List.getElem?_map,List.getElem?_eq_getElem (by omega)];rfl),h2.free i⟩
theorem Nl (F:dG) (ov:Value) (S:aW) (i:Nat) (w:World) (h:aY F ov S w) (hi:i<F.l.length) (hl:F.lim≤1000000) (hs:S.steps≤F.lim) :
  Calls Tryz.prog 43 #[.pointer (some ⟨F.W,0,none⟩),.int .i64 i] w (sG F ov w (if S.steps=F.lim then (false,{S with how:=2}) else (true,tick S))):=by
 obtain ⟨u0,u2,u3,u4,uf⟩:=h.oW
 by_cases hc:S.steps=F.lim
 ·rw [if_pos hc]
  have e1:((S.steps:Int)==(F.lim:Int))=true:=by rw [hc];simp
  have HS:=ah (fun (wx:World) (k:Kept aA w wx)=>bf.after k ((h.quiet k).Gp 2))
  obtain ⟨a,c,_,_,_,_,_,_,q6,qf,_⟩:=h.kX
  have f6:=qf 6
  clear h hc uf qf
  go_enter Tryz.func43, Tryz.ntmps43
  go_wp2_with fail
  go_quiet (fail)
  go_wp2_with fail
  go_ret
  exact ⟨rfl,ov,HS.out _ ((Kept.refl aA w).drewN _)⟩
 ·rw [if_neg hc]
  have e1:((S.steps:Int)==(F.lim:Int))=false:=by simp;omega
  obtain ⟨n,c1,f1⟩:=h.hit hi
  have f2:=uf 2
  have HS:Hid (∀(wx:World),Kept aA w wx→∀m,bf F ov w ov (tick S) ((wx.setCell ⟨F.W,2,none⟩ (.int .i64 ((S.steps:Int)+1))).setCell ⟨F.H,i,none⟩ (.int .i64 m))):=fun wx k m=>by
   have h1:=(h.quiet k).aaq
   exact bf.after k (h1.trans (h1.at_.aeH i m))
  have hne:F.W≠F.H:=h.fix.ne.2.2.2.2.2.2.2.2.1
  have hne':F.H≠F.W:=fun e=>hne e.symm
  have bi:(i:Int)<(F.l.length:Int):=by omega
  clear h hc uf
  go_enter Tryz.func43, Tryz.ntmps43
  go_wp2_with fail
  go_quiet (fail)
  go_wp2_with fail
  go_ret
  exact ⟨rfl,ov,HS.out _ ((Kept.refl aA w).drewN _) _⟩
theorem aeg (F:dG) (nb:aj→Bool) (kb:Int→Bool) (BH:BR F nb kb) (h4:kb 4=false) (ov:Value) (S:aW) (Sx:Nat→Prop) (s:aF) (b o:Nat) (w:World) (h:aY F ov S w) (ok:bG S) (hsx:∀b,Sx b→b<F.N) (hx:zV w Sx b o s) (hk:okS nb kb s=true) :
  Calls Tryz.prog 44 #[.pointer (some ⟨F.R,0,none⟩),.pointer (some ⟨b,o,none⟩)] w (sG F ov w (l7 s S)):=by
 unfold okS at hk
 by_cases h1:s.kind=1
 ·exact ac5 F ov S Sx s b o w h hx h1
 rw [if_neg h1] at hk
 by_cases h2:s.kind=2
 ·rw [if_pos h2] at hk;exact ac6 F nb kb BH h4 ov S Sx s b o w h ok hsx hx h2 hk
 rw [if_neg h2,Bool.and_eq_true,Bool.and_eq_true,Bool.and_eq_true] at hk
 refine WI F nb kb BH h4 ov S Sx s b o w h ok hsx hx (of_decide_eq_true hk.1) hk.2.1 ?_
 rcases of_decide_eq_true hk.2.2.2 with h3|h3
 ·exact h3
 ·exfalso
  have:=hk.2.2.1
  generalize s.target=x at this h3
  obtain ⟨k,t,n,nm,kids⟩:=x
  obtain rfl:k=4:=h3
  rw [rD,if_neg (by decide),if_neg (by decide),if_neg (by decide),if_pos rfl,h4] at this
  simp at this
end Go.Proofs.YtodebjhalipefaaGreatDoor

namespace Go.Proofs.YtodebjhalipefaaGreatDoor
set_option linter.all false
open Go.RowKit
set_option maxRecDepth 100000
set_option maxHeartbeats 8000000
theorem Rf {l:List aF} {u:aj} {d:Int} (h:jU l u=some d):∃k:Nat,d=k∧k<l.length:=by
 unfold jU at h
 rw [sH] at h
 rcases uU (Nk u) l 0 with ⟨h1,_⟩|⟨k,hk,h1,_⟩
 ·rw [h1] at h;cases h
 ·rw [h1] at h
  rw [if_neg (by omega)] at h
  cases h
  exact ⟨0+k,rfl,by omega⟩
theorem ZR {l:List aF} {i:Nat} (u:aj) (hi:i<l.length):nextL l i u≤l.length:=by
 unfold nextL
 split
 ·omega
 split
 ·exact Nat.le_refl _
 ·cases h:jU l u with
  | none=>simp
  | some d=>obtain ⟨k,rfl,hk⟩:=Rf h;simp;omega
theorem Rh {s:aj} (h:s.size=0):s.toList=[]:=by rw [oZ h];rw [ByteArray.toList_eq]
theorem JR {s:aj} (h:s.toList=[]):(⟨#[]⟩:aj)=s:=(EZ.2 h).symm
def ThQ (F:dG) (ov:Value) (w:World) (S:aW) (e:Ending) (w':World):Prop:=e=.returned (.int .i64 0)∧∃qC,bf F ov w qC S w'
structure ThJ (F:dG) (ov:Value) (w:World) (R0:aW) (i n:Nat) (qh:Value) (Sj:aW) (wr:World):Prop where
 eq:jP F.l n i Sj=R0
 le:i≤F.l.length
 st:Sj.steps+n=F.lim
 ok:bG Sj
 run:bf F ov w qh Sj wr
def rF (F:dG) (w:World):Nat:=(intOf ((w.cell? ⟨F.W,2,none⟩).getD undef)).toNat
theorem aY.rF {F:dG} {ov:Value} {S:aW} {w:World} (h:aY F ov S w):rF F w=S.steps:=by
 unfold Go.Proofs.YtodebjhalipefaaGreatDoor.rF
 rw [h.oW.2.1]
 simp [intOf]
section
variable (F:dG) (nb:aj→Bool) (kb:Int→Bool) (BH:BR F nb kb) (h4:kb 4=false) (ov:Value) (S:aW) (w:World) (h:aY F ov S w) (ok:bG S) (hl:∀s∈F.l,okS nb kb s=true) (hlim:F.lim≤1000000) (hlen:F.l.length≤1000000)
include h ok hl hlim hlen BH h4
theorem Qo (hs:S.steps≤F.lim):Calls Tryz.prog 28 #[.pointer (some ⟨F.R,0,none⟩),.int .i64 0] w (ThQ F ov w (jP F.l (F.lim-S.steps) 0 S)):=by
 obtain ⟨R0,hR0⟩:∃R0,jP F.l (F.lim-S.steps) 0 S=R0:=⟨_,rfl⟩
 rw [hR0]
 have hstart:Hid (ThJ F ov w R0 0 (F.lim-S.steps) ov S w):=⟨hR0,Nat.zero_le _,by omega,ok,bf.refl h⟩
 have H:=ah h;have HB:=ah BH;have HL:=ah hl
 clear h BH hl ok hR0
 go_enter Tryz.func28, Tryz.ntmps28
 go_wp2_with fail
 go_loopw [1] (fun a wr=>∃(i n:Nat) (qh:Value) (Sj:aW),a=.int .i64 i∧ThJ F ov w R0 i n qh Sj wr) (fun _ wr=>F.lim+1-rF F wr)
 case atStart=>exact ⟨0,_,ov,S,rfl,hstart.out⟩
 case round =>
  obtain ⟨i,n,qh,Sj,rfl,hJ⟩:=hrel
  have HJ:=ah hJ
  have hle:=hJ.le
  have hst:=hJ.st
  have hrun:=hJ.run
  obtain ⟨r0,r1,r2,r3⟩:=hrun.at_.wW
  by_cases hlt:i<F.l.length
  ·have e1:decide ((i:Int)<(F.l.length:Int))=true:=ak (by omega)
   have e1':decide (i<F.l.length)=true:=ak hlt
   by_cases hn:n=0
   ·subst hn
    have fin:Hid (R0={Sj with how:=2}):=by unfold Hid;rw [←hJ.eq,jP,dif_pos hlt]
    have HS:=Nl F qh Sj i wr hrun.at_ hlt hlim (by omega)
    rw [if_pos (by omega)] at HS
    have HS:=ah HS
    clear hJ hrun r2 r3
    go_wp2_with (go_at_call 43;(with_reducible refine HS.out.mono ?_);rintro e w1 ⟨rfl,dU,r_⟩;have R1:=ah (HJ.out.run.trans r_);clear r_)
    go_ret
    exact ⟨rfl,dU,by rw [fin.out];exact R1.out⟩
   ·obtain ⟨m,rfl⟩:∃m,n=m+1:=⟨n-1,by omega⟩
    have HS:=Nl F qh Sj i wr hrun.at_ hlt hlim (by omega)
    rw [if_neg (by omega)] at HS
    have HS:=ah HS
    obtain ⟨b,o,hal,aic⟩:=hrun.at_.oJ.prog (by omega)
    have okT:bG (tick Sj):=hJ.ok.tick
    have hsm:okS nb kb F.l[i]=true:=HL.out _ (List.getElem_mem hlt)
    have hth:=hJ.eq
    rw [jP,dif_pos hlt] at hth
    have Np:Hid (∀dU w1,aY F dU (tick Sj) w1→Calls Tryz.prog 44 #[.pointer (some ⟨F.R,0,none⟩),.pointer (some ⟨b,o+i*24,none⟩)] w1 (sG F dU w1 (l7 F.l[i] (tick Sj)))):=fun dU w1 hr=>by
     obtain ⟨b',o',hal',TU⟩:=hr.oJ.prog (by omega)
     rw [hal] at hal'
     simp only [Option.some.injEq,Addr.mk.injEq,and_true] at hal'
     obtain ⟨rfl,rfl⟩:=hal'
     exact aeg F nb kb HB.out h4 dU (tick Sj) F.S F.l[i] b (o+i*24) w1 hr okT hr.oJ.hS (TU i hlt) hsm
    have HST:Hid (∀dU S1 w1,aY F dU S1 w1→zV w1 F.S b (o+i*24) F.l[i]):=fun dU S1 w1 hr=>by
     obtain ⟨b',o',hal',TU⟩:=hr.oJ.prog (by omega)
     rw [hal] at hal'
     simp only [Option.some.injEq,Addr.mk.injEq,and_true] at hal'
     obtain ⟨rfl,rfl⟩:=hal'
     exact TU i hlt
    have hdo:=abP (nb:=nb) (kb:=kb) F.l[i] (tick Sj) hsm okT
    have hds:=(V5 F.l[i] (tick Sj)).1
    rw [hal] at r1
    have HR1:Hid (∀dU S1 w1,aY F dU S1 w1→w1.cell? ⟨F.R,0,none⟩=some (.pointer (some ⟨F.W,0,none⟩))∧w1.cell? ⟨F.R,1,none⟩=some (.slice (some ⟨b,o,none⟩) F.l.length F.cl)∧w1.cell? ⟨F.R,2,none⟩=some (.pointer (some ⟨F.T,0,none⟩))∧w1.cell? ⟨F.R,3,none⟩=some (.int .i64 0)):=fun dU S1 w1 hr=>by
     have:=hr.wW;rw [hal] at this;exact this
    have bi:(i:Int)<(F.l.length:Int):=by omega
    cases hd:l7 F.l[i] (tick Sj) with
    | mk bb S1 =>
    rw [hd] at Np hdo hds hth
    dsimp only at hth hdo hds
    have hok1:bG S1:=hdo
    have hs1:S1.steps=Sj.steps+1:=hds
    clear hJ hrun r2 r3 hsm okT hd hdo hds aic hal
    by_cases hw:S1.how≠0
    ·rw [if_pos hw] at hth
     have fin:=ah hth
     have e2:(S1.how != 0)=true:=by simpa using hw
     clear hth hw
     go_wp2_with (first
      | (go_at_call 43;(with_reducible refine HS.out.mono ?_);rintro e w1 ⟨rfl,dU,r_⟩;have R1:=ah r_;obtain ⟨g0,g1,g2,g3⟩:=HR1.out _ _ _ r_.at_;clear r_)
      | (go_at_call 44;(with_reducible refine (Np.out dU w1 R1.out.at_).mono ?_);rintro e w2 ⟨rfl,kW,r_⟩;have R2:=ah (HJ.out.run.trans (R1.out.trans r_));obtain ⟨g0,g1,g2,g3⟩:=HR1.out _ _ _ r_.at_;obtain ⟨u0,_⟩:=r_.at_.oW;obtain ⟨a_,c_,_,_,_,_,_,_,q6,_⟩:=r_.at_.kX;clear r_))
     go_ret
     exact ⟨rfl,kW,by rw [←fin.out];exact R2.out⟩
    ·rw [if_neg hw] at hth
     have e2:(S1.how != 0)=false:=by simpa using hw
     obtain ⟨tv,Bv⟩:∃tv,tv=toS F.l[i] bb:=⟨_,rfl⟩
     rw [←Bv] at hth
     have HTH:=ah hth
     have JU:=ah Bv
     clear hth hw Bv
     go_upto_block 2 with (first
      | (go_at_call 43;(with_reducible refine HS.out.mono ?_);rintro e w1 ⟨rfl,dU,r_⟩;have R1:=ah r_;obtain ⟨g0,g1,g2,g3⟩:=HR1.out _ _ _ r_.at_;clear r_)
      | (go_at_call 44;(with_reducible refine (Np.out dU w1 R1.out.at_).mono ?_);rintro e w2 ⟨rfl,kW,r_⟩;have R2:=ah (HJ.out.run.trans (R1.out.trans r_));obtain ⟨g0,g1,g2,g3⟩:=HR1.out _ _ _ r_.at_;obtain ⟨u0,_⟩:=r_.at_.oW;obtain ⟨a_,c_,_,_,_,_,_,_,q6,_⟩:=r_.at_.kX;obtain ⟨_,_,_,_,_,q21,q22,q23⟩:=uo (HST.out _ _ _ r_.at_);clear r_))
     go_cut [7] (fun c wx=>c=.string tv∧wx=w2)
     case first =>
      unfold toS at JU
      by_cases ha:F.l[i].always.size=0
      ·have a1:=Rh ha
       have a2:F.l[i].always.toList.isEmpty=true:=by rw [a1];rfl
       have Bv:=JU.out
       rw [if_neg (fun h=>h ha)] at Bv
       cases bb with
       | true =>
        rw [if_pos rfl] at Bv
        clear JU ha HS Np HST HR1 HJ
        go_wp2_with fail
        go_meet
        exact ⟨by rw [Bv],rfl⟩
       | false =>
        rw [if_neg (fun h=>by cases h)] at Bv
        clear JU ha HS Np HST HR1 HJ
        go_wp2_with fail
        go_meet
        exact ⟨by rw [Bv],rfl⟩
      ·have a1:F.l[i].always.toList≠[]:=fun e=>ha (by rw [←JR e];rfl)
       have a2:F.l[i].always.toList.isEmpty=false:=by simpa using a1
       have Bv:=JU.out
       rw [if_pos ha] at Bv
       clear JU ha HS Np HST HR1 HJ
       go_wp2_with fail
       go_meet
       exact ⟨by rw [Bv],rfl⟩
     case rest =>
      obtain ⟨rfl,rfl⟩:=hcut
      have hnx:Hid (ThJ F ov w R0 (nextL F.l i tv) m kW S1 wc):=⟨HTH.out,ZR tv hlt,by omega,hok1,R2.out⟩
      have hms:Hid (F.lim+1-rF F wc<F.lim+1-rF F wr):=by
       unfold Hid
       rw [R2.out.at_.rF,HJ.out.run.at_.rF];omega
      have htz:tv.size≤maxLen:=by
       obtain ⟨_,_,hz,_⟩:=HST.out _ _ _ R2.out.at_
       have h1:=hz.always;have h2:=hz.yes;have h3:=hz.bU
       rw [JU.out];unfold toS maxLen;split
       ·omega
       ·split<;>omega
      have hlk:=R2.out.at_.oJ.kP.look tv htz
      obtain ⟨t0,_⟩:=R2.out.at_.oJ.tab.cells
      clear HS Np HST HR1 HJ HTH JU R1 R2 q21 q22 q23 q6 u0
      by_cases h0:tv.size=0
      ·have a1:=Rh h0
       have a2:tv.toList.isEmpty=true:=by rw [a1];rfl
       have hne:nextL F.l i tv=i+1:=if_pos h0
       rw [hne] at hnx
       clear h0 hlk hne
       go_wp2_with fail
       go_roundw
       case rel=>exact ⟨i+1,m,kW,S1,by go_num,hnx.out⟩
       case measure=>exact hms.out
      have a1:tv.toList≠[]:=fun e=>h0 (by rw [←JR e];rfl)
      have a2:tv.toList.isEmpty=false:=by simpa using a1
      by_cases hE:tv=aec
      ·have b1:(tv.toList==[69,78,68])=true:=xZ hE
       have hne:nextL F.l i tv=F.l.length:=by unfold nextL;rw [if_neg h0,if_pos (.inl hE)]
       rw [hne] at hnx
       clear h0 hlk hne hE
       go_wp2_with fail
       go_roundw
       case rel=>exact ⟨F.l.length,m,kW,S1,by go_num,hnx.out⟩
       case measure=>exact hms.out
      have b1:(tv.toList==[69,78,68])=false:=x8 hE
      by_cases hR:tv=aed
      ·have b2:(tv.toList==[82,69,84,85,82,78])=true:=xZ hR
       have hne:nextL F.l i tv=F.l.length:=by unfold nextL;rw [if_neg h0,if_pos (.inr (.inl hR))]
       rw [hne] at hnx
       clear h0 hlk hne hE hR
       go_wp2_with fail
       go_roundw
       case rel=>exact ⟨F.l.length,m,kW,S1,by go_num,hnx.out⟩
       case measure=>exact hms.out
      have b2:(tv.toList==[82,69,84,85,82,78])=false:=x8 hR
      by_cases hF:tv=abO
      ·have b3:(tv.toList==[70,82,69,84,85,82,78])=true:=xZ hF
       have hne:nextL F.l i tv=F.l.length:=by unfold nextL;rw [if_neg h0,if_pos (.inr (.inr hF))]
       rw [hne] at hnx
       clear h0 hlk hne hE hR hF
       go_wp2_with fail
       go_roundw
       case rel=>exact ⟨F.l.length,m,kW,S1,by go_num,hnx.out⟩
       case measure=>exact hms.out
      have b3:(tv.toList==[70,82,69,84,85,82,78])=false:=x8 hF
      have hne:nextL F.l i tv=((jU F.l tv).getD 0).toNat:=by unfold nextL;rw [if_neg h0,if_neg (by rintro (h|h|h);exact hE h;exact hR h;exact hF h)]
      obtain ⟨kn,hkn⟩:∃kn:Nat,(jU F.l tv).getD 0=(kn:Int):=by
       cases hm:jU F.l tv with
       | none=>exact ⟨0,rfl⟩
       | some d=>obtain ⟨k,rfl,_⟩:=Rf hm;exact ⟨k,rfl⟩
      rw [hne,hkn,Int.toNat_natCast] at hnx
      rw [hkn] at hlk
      clear h0 hne hE hR hF hkn
      go_wp2_with fail
      go_roundw
      case rel=>exact ⟨kn,m,kW,S1,by go_num,hnx.out⟩
      case measure=>exact hms.out
  ·have e1:decide ((i:Int)<(F.l.length:Int))=false:=au (by omega)
   have e1':decide (i<F.l.length)=false:=au hlt
   have fin:Hid (R0={Sj with how:=1}):=by
    unfold Hid;rw [←hJ.eq]
    cases n with
    | zero=>rw [jP,dif_neg hlt]
    | succ n=>rw [jP,dif_neg hlt]
   have HS:=ah (hrun.trans (hrun.at_.Gp 1))
   obtain ⟨u0,_⟩:=hrun.at_.oW
   obtain ⟨a_,c_,_,_,_,_,_,_,q6,qf,_⟩:=hrun.at_.kX
   have f6:=qf 6
   clear hJ hrun qf
   go_wp2_with fail
   go_ret
   exact ⟨rfl,qh,by rw [fin.out];exact HS.out⟩
end
end Go.Proofs.YtodebjhalipefaaGreatDoor
