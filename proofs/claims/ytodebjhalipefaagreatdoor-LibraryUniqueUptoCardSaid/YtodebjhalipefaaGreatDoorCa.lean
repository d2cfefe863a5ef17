/-  -/
import Derived.Test.YtodebjhalipefaaGreatDoorLq3
import Derived.Test.YtodebjhalipefaaGreatDoorLq19
namespace Go.Proofs.YtodebjhalipefaaGreatDoor
set_option linter.all false
open Go.RowKit Go.Maps Go.WideMaps
set_option maxRecDepth 100000
set_option maxHeartbeats 8000000
def qj (w:World) (T B1 B2:Nat):Prop:=w.heap[T]?=some (.cells #[.map (some B1),.map (some B2)] 116 (0,0))
theorem qj.lt {w:World} {T B1 B2:Nat} (h:qj w T B1 B2):T<w.heap.size:=(Array.getElem?_eq_some_iff.1 h).1
theorem qj.kept {w w':World} {T B1 B2:Nat} {X:Nat→Prop} (h:qj w T B1 B2) (hk:Kept X w w') (hx:¬X T):qj w' T B1 B2:=by
 unfold qj;rw [hk.block T h.lt hx];exact h
theorem qj.cells {w:World} {T B1 B2:Nat} (h:qj w T B1 B2):w.cell? ⟨T,0,none⟩=some (.map (some B1))∧w.cell? ⟨T,1,none⟩=some (.map (some B2)):=by
 unfold qj at h
 exact ⟨by rw [cell_of_row w T _ _ _ _ h];rfl,by rw [cell_of_row w T _ _ _ _ h];rfl⟩
theorem eG.look_ok {w:World} {B n:Nat} {m:aj→Option Int} (h:eG w B n m) (s:aj) (hs:s.size≤maxLen) :
  (Instr.lookup 114 (.map (some B)) (.string s) true).run Tryz.prog w=.ok (.tuple #[.int .i64 ((m s).getD 0),.bool (m s).isSome]) w:=by
 obtain ⟨D,hown,hmap,hD⟩:=h
 obtain ⟨v,ps,hrun,hv⟩:=hown.look_ok qy Tryz.underlying114 (IV w) (plainElem_int (H:=Unit) (a:=0) Tryz.underlying3 (by decide)) (keyOf_string_mk Tryz.underlying9 hs)
 obtain ⟨c,rfl,hc,_⟩:=plainElem_int_inv Tryz.underlying3 hv
 obtain ⟨h1,h2⟩:=hD s
 have hat:=congrArg Prod.fst hc
 rw [hrun,h1]
 cases hms:m s with
 | none=>rw [h2,hms] at hat;simp only [DataW.lit.injEq,Lit.int.injEq,true_and] at hat;subst hat;rfl
 | some d=>rw [h2,hms] at hat;simp only [DataW.lit.injEq,Lit.int.injEq,true_and] at hat;subst hat;rfl
theorem eG.drewN {w:World} {B n:Nat} {m:aj→Option Int} (h:eG w B n m) (k:Nat):eG (w.drewN k) B n m:=h.kept ((Kept.refl aA w).drewN k) (fun h=>h)
def xR (m:aj→Option Int) (l:List aF) (x:aB):Int :=
 if x.kind≠6 then 0
 else if 0≤aI x.name∧aI x.name≠x.kids.length then 5
 else if aI x.name<0∧(m x.name).isSome=false then 7
 else if aI x.name<0∧wU l ((m x.name).getD 0)<x.kids.length then 5 else 0
def jr (r:Int×Int) (e at_:Int):Int×Int:=if e=0 then r else vI r (e,at_)
mutual
def nP (m:aj→Option Int) (l:List aF) (at_:Int):aB→Int×Int→Int×Int
 | .mk k t n nm kids,r=>ji m l at_ kids (jr r (xR m l (.mk k t n nm kids)) at_)
def ji (m:aj→Option Int) (l:List aF) (at_:Int):List aB→Int×Int→Int×Int
 | [],r=>r
 | x::q,r=>ji m l at_ q (nP m l at_ x r)
end
theorem Ei (m:aj→Option Int) (l:List aF) (at_:Int) (q:List aB) (j:Nat) (h:j<q.length) (r:Int×Int):ji m l at_ (q.drop j) r=ji m l at_ (q.drop (j+1)) (nP m l at_ q[j] r):=by
 rw [List.drop_eq_getElem_cons h,ji]
theorem VY (T B1 B2 n2 N:Nat) (mF:aj→Option Int) (l:List aF) (al:Option Addr) (cl:Nat) (S:Nat→Prop) (at_:Int) (hmF:∀s d,mF s=some d→∃k:Nat,d=k∧k<l.length) (hTN:T≠N) (hBN:B2≠N) (hlen:l.length≤1048576) :
  ∀(m:Nat) (x:aB) (b o:Nat) (r:Int×Int) (w:World),sizeT x≤m→aU w S b o x→mW w S al l→Safe S (· = N) w.heap.size→qj w T B1 B2→eG w B2 n2 mF→Fs N r w→
  Calls Tryz.prog 81 #[.pointer (some ⟨T,0,none⟩),.slice al l.length cl,.pointer (some ⟨b,o,none⟩),.int .i64 at_,.pointer (some ⟨N,0,none⟩)] w (ZG N (nP mF l at_ x r) w):=by
 intro m
 induction m with
 | zero=>intro x b o r w hm;have:=BM x;omega
 | succ m ih =>
 intro x b o r w hm hp hl hS hT hM hF
 obtain ⟨k,t,n,nm,kids⟩:=x
 have hih:∀(j:Nat) (hj:j<kids.length) (b o:Nat) (r:Int×Int) (w:World),aU w S b o kids[j]→mW w S al l→Safe S (· = N) w.heap.size→qj w T B1 B2→eG w B2 n2 mF→Fs N r w→
   Calls Tryz.prog 81 #[.pointer (some ⟨T,0,none⟩),.slice al l.length cl,.pointer (some ⟨b,o,none⟩),.int .i64 at_,.pointer (some ⟨N,0,none⟩)] w (ZG N (nP mF l at_ kids[j] r) w) :=
  fun j hj b o r w h1 h2 h3 h4 h5 h6=>ih kids[j] b o r w (by have:=oQ kids j hj;simp only [sizeT] at hm;omega) h1 h2 h3 h4 h5 h6
 have HP:=ah hp
 unfold aU at hp
 obtain ⟨_,⟨_,hnz,hkl⟩,q0,_,_,q3,ka,cap,q4,_⟩:=hp
 have hnl:nm.size≤maxLen:=by unfold maxLen;omega
 have HIH:=ah hih;have HL:=ah hl;have HS:=ah hS;have HT:=ah hT;have HM:=ah hM;have HF:=ah hF;have HMF:=ah hmF
 have hr:Hid (nP mF l at_ (.mk k t n nm kids) r=ji mF l at_ kids (jr r (xR mF l (.mk k t n nm kids)) at_)):=by unfold Hid;rw [nP]
 obtain ⟨x0,x1⟩:=HT.out.cells
 have hlook:∀i,(Instr.lookup 114 (.map (some B2)) (.string nm) true).run Tryz.prog (w.drewN i)=.ok (.tuple #[.int .i64 ((mF nm).getD 0),.bool (mF nm).isSome]) (w.drewN i):=fun i=>(HM.out.drewN i).look_ok nm hnl
 clear hih ih hm hl hS hT hM hF
 go_enter Tryz.func81, Tryz.ntmps81
 go_upto_if 18 with fail
 go_cut [18] (fun c wx=>Fs N (jr r (xR mF l (.mk k t n nm kids)) at_) wx∧Kept (· = N) w wx)
 case first =>
  by_cases h6:k=6
  ·have z1:(k==6)=true:=by simpa using h6
   go_wp2_with fail
   go_quiet (fail)
   go_wp2_with fail
   refine (lF nm _).mono ?_
   rintro e w' ⟨rfl,rfl⟩
   have hcs:Hid (xR mF l (.mk k t n nm kids)=if 0≤aI nm∧aI nm≠kids.length then 5 else if aI nm<0∧(mF nm).isSome=false then 7 else if aI nm<0∧wU l ((mF nm).getD 0)<kids.length then 5 else 0):=by
    exact if_neg (fun h=>h h6)
   have hrg : -1≤aI nm∧aI nm≤3:=by unfold aI;split<;>(try split)<;>(try split)<;>omega
   have HFq:Hid (Fs N r (w.drewN nq)):=HF.out.kept ((Kept.refl aA w).drewN nq) (fun h=>h)
   have KQ:Hid (Kept (· = N) w (w.drewN nq)):=(Kept.refl (· = N) w).drewN nq
   generalize hcl:xR mF l (.mk k t n nm kids)=ce at *
   generalize hbn:aI nm=bn at *
   clear hbn h6 hlook hr hcl
   by_cases hn:0≤bn
   ·have e1:decide (0≤bn)=true:=ak hn
    have e3:decide (bn<0)=false:=au (by omega)
    by_cases hne:bn=(kids.length:Int)
    ·have e2:(bn != (kids.length:Int))=false:=by simpa using hne
     have fin:Hid (ce=0):=by unfold Hid;rw [hcs.out,if_neg (fun h=>h.2 hne),if_neg (by omega),if_neg (by omega)]
     clear hne hn
     go_wp2_with fail
     go_quiet (fail)
     go_wp2_with fail
     go_meet
     exact ⟨by rw [fin.out];exact HFq.out.kept ((Kept.refl aA _).drewN _) (fun h=>h),KQ.out.drewN _⟩
    ·have e2:(bn != (kids.length:Int))=true:=by simpa using hne
     have fin:Hid (ce=5):=by unfold Hid;rw [hcs.out,if_pos ⟨hn,hne⟩]
     clear hne hn
     go_wp2_with (go_at_call 73;(with_reducible refine (pV N r 5 at_ _ HFq.out).mono ?_);rintro e w3 ⟨rfl,xU,bD⟩;have F3:=ah xU;have K3:=ah (KQ.out.trans bD);clear xU bD)
     go_meet
     exact ⟨by rw [fin.out];exact F3.out,K3.out⟩
   have e1:decide (0≤bn)=false:=au hn
   have e3:decide (bn<0)=true:=ak (by omega)
   cases hm:mF nm with
   | none =>
    have fin:Hid (ce=7):=by unfold Hid;rw [hcs.out,if_neg (fun h=>hn h.1),if_pos ⟨by omega,by rw [hm];rfl⟩]
    clear hn
    dsimp only [Option.isSome,Option.getD]
    go_wp2_with (go_at_call 73;(with_reducible refine (pV N r 7 at_ _ HFq.out).mono ?_);rintro e w3 ⟨rfl,xU,bD⟩;have F3:=ah xU;have K3:=ah (KQ.out.trans bD);clear xU bD)
    go_meet
    exact ⟨by rw [fin.out];exact F3.out,K3.out⟩
   | some d =>
    obtain ⟨dn,rfl,hdn⟩:=HMF.out nm d hm
    obtain ⟨bl,ol,rfl,hcl⟩:=HL.out (by omega)
    obtain ⟨ad,_,hzd,hcd,_⟩:=hcl dn hdn
    have x19:=hcd 19 (by decide)
    have hpl:wU l ((dn:Nat):Int)=l[dn].params.length:=by unfold wU;rw [Int.toNat_natCast,List.getElem?_eq_getElem hdn]
    have hpz:=hzd.params.1
    have ak3:_=some (Value.slice ad.ma l[dn].params.length ad.mc):=x19
    have hcs':Hid (ce=if l[dn].params.length<kids.length then 5 else 0):=by
     have h1:=hcs.out
     rw [if_neg (fun h=>hn h.1),if_neg (fun h=>by have h2:=h.2;rw [hm] at h2;cases h2)] at h1
     unfold Hid
     rw [h1]
     simp only [hm,Option.getD,hpl]
     by_cases hq:l[dn].params.length<kids.length
     ·rw [if_pos ⟨by omega,hq⟩,if_pos hq]
     ·rw [if_neg (fun h=>hq h.2),if_neg hq]
    clear hcl hcd hzd x19 hpl hcs
    generalize l[dn].params.length=pl at *
    dsimp only [Option.isSome,Option.getD]
    by_cases hq:pl<kids.length
    ·have e4:decide ((pl:Int)<(kids.length:Int))=true:=ak (by omega)
     have e5:decide (pl<kids.length)=true:=ak hq
     have fin:Hid (ce=5):=hcs'.out.trans (if_pos hq)
     clear hn hq
     go_wp2_with fail
     go_quiet (fail)
     go_wp2_with (go_at_call 73;(refine (pV N r 5 at_ _ (HF.out.kept ((Kept.refl aA w).drewN _) (fun h=>h))).mono ?_);rintro e w3 ⟨rfl,xU,bD⟩;have F3:=ah xU;have K3:=ah (((Kept.refl (· = N) w).drewN _).trans bD);clear xU bD)
     go_meet
     exact ⟨by rw [fin.out];exact F3.out,K3.out⟩
    ·have e4:decide ((pl:Int)<(kids.length:Int))=false:=au (by omega)
     have e5:decide (pl<kids.length)=false:=au hq
     have fin:Hid (ce=0):=hcs'.out.trans (if_neg hq)
     clear hn hq
     go_wp2_with fail
     go_quiet (fail)
     go_wp2_with fail
     go_meet
     exact ⟨by rw [fin.out];exact HFq.out.kept ((Kept.refl aA _).drewN _) (fun h=>h),KQ.out.drewN _⟩
  ·have z1:(k==6)=false:=by simpa using h6
   have fin:Hid (xR mF l (.mk k t n nm kids)=0):=if_pos h6
   clear h6 hlook
   go_wp2_with fail
   go_meet
   exact ⟨by rw [fin.out];exact HF.out,Kept.refl _ _⟩
 case rest =>
  obtain ⟨hF1,hk1⟩:=hcut
  have F1:=ah hF1;have K1:=ah hk1
  have hp1:=HP.out.kept hk1 HS.out
  unfold aU at hp1
  obtain ⟨_,_,_,_,_,_,ka1,cap1,q41,_⟩:=hp1
  clear hF1 hk1 q0 q3 q4 x0 x1 hlook HF
  go_wp2_with fail
  go_loopw [86] (fun i wr=>∃(j:Nat) (r2:Int×Int),j≤kids.length∧i=.int .i64 j∧Hid (nP mF l at_ (.mk k t n nm kids) r=ji mF l at_ (kids.drop j) r2)∧Fs N r2 wr∧Kept (· = N) w wr) (fun i _=>kids.length-(intOf i).toNat)
  case atStart=>exact ⟨0,_,Nat.zero_le _,rfl,by unfold Hid;rw [hr.out,List.drop_zero],F1.out,K1.out⟩
  case round =>
   obtain ⟨j,r2,hj,rfl,hno,hf2,hkw⟩:=hrel
   have KW:=ah hkw;have F2:=ah hf2
   by_cases hlt:j<kids.length
   ·have hp2:=HP.out.kept hkw HS.out
    unfold aU at hp2
    obtain ⟨_,_,_,_,_,_,ka2,cap2,q42,hks⟩:=hp2
    obtain ⟨b1,o1,rfl⟩:=oh hks (by omega)
    have Bl:=ah (mV kids b1 o1 j hlt hks)
    have step:=ah (hno.out.trans (Ei mF l at_ kids j hlt r2))
    have L2:=ah (HL.out.to hkw HS.out (fun _ h=>h));have S2:=ah (HS.out.mono hkw.size);have T2:=ah (HT.out.kept hkw hTN);have M2:=ah (HM.out.kept hkw hBN)
    clear hks hkw hf2
    go_wp2_with fail
    refine (HIH.out j hlt b1 (o1+j*5) r2 _ Bl.out L2.out S2.out T2.out M2.out F2.out).mono ?_
    rintro e w3 ⟨rfl,xU,bD⟩
    have F3:=ah xU;have K3:=ah (KW.out.trans bD)
    clear xU bD
    go_wp2_with fail
    go_roundw
    case rel=>exact ⟨j+1,_,by omega,by go_num,step,F3.out,K3.out⟩
    case measure=>simp [intOf];omega
   ·obtain rfl:j=kids.length:=by omega
    have fin:Hid (nP mF l at_ (.mk k t n nm kids) r=r2):=by unfold Hid;rw [hno.out,List.drop_length,ji]
    go_wp2_with fail
    refine bodyPost_ret (v:=.tuple #[]) (by simp [results,Tryz.results81,go_sem]) rfl ⟨rfl,by rw [fin.out];exact F2.out,KW.out⟩
end Go.Proofs.YtodebjhalipefaaGreatDoor
