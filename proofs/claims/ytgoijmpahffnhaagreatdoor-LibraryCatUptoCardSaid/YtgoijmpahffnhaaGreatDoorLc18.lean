/-  -/
import Derived.Test.YtgoijmpahffnhaaGreatDoorLc17
import Derived.Test.YtgoijmpahffnhaaGreatDoorLc15
import Derived.Test.YtgoijmpahffnhaaGreatDoorShelf
import Derived.Lib.AppendZerosOnto
namespace Go.Proofs.YtgoijmpahffnhaaGreatDoor
set_option linter.all false
open Go.RowKit Go.Maps Go.WideMaps
set_option maxRecDepth 100000
set_option maxHeartbeats 8000000
def rD (w:World) (T B1 B2:Nat):Prop:=w.heap[T]?=some (.cells #[.map (some B1),.map (some B2)] 100 (0,0))
theorem rD.lt {w:World} {T B1 B2:Nat} (h:rD w T B1 B2):T<w.heap.size:=(Array.getElem?_eq_some_iff.1 h).1
theorem rD.kept {w w':World} {T B1 B2:Nat} {X:Nat→Prop} (h:rD w T B1 B2) (hk:Kept X w w') (hx:¬X T):rD w' T B1 B2:=by
 unfold rD;rw [hk.block T h.lt hx];exact h
theorem rD.cells {w:World} {T B1 B2:Nat} (h:rD w T B1 B2):w.cell? ⟨T,0,none⟩=some (.map (some B1))∧w.cell? ⟨T,1,none⟩=some (.map (some B2)):=by
 unfold rD at h
 exact ⟨by rw [cell_of_row w T _ _ _ _ h];rfl,by rw [cell_of_row w T _ _ _ _ h];rfl⟩
theorem fJ.look_ok {w:World} {B n:Nat} {m:aj→Option Int} (h:fJ w B n m) (s:aj) (hs:s.size≤maxLen) :
  (Instr.lookup 98 (.map (some B)) (.string s) true).run Tryz.prog w=.ok (.tuple #[.int .i64 ((m s).getD 0),.bool (m s).isSome]) w:=by
 obtain ⟨D,hown,hmap,hD⟩:=h
 obtain ⟨v,ps,hrun,hv⟩:=hown.look_ok rO Tryz.underlying98 (IQ w) (plainElem_int (H:=Unit) (a:=0) Tryz.underlying3 (by decide)) (keyOf_string_mk Tryz.underlying9 hs)
 obtain ⟨c,rfl,hc,_⟩:=plainElem_int_inv Tryz.underlying3 hv
 obtain ⟨h1,h2⟩:=hD s
 have hat:=congrArg Prod.fst hc
 rw [hrun,h1]
 cases hms:m s with
 | none=>rw [h2,hms] at hat;simp only [DataW.lit.injEq,Lit.int.injEq,true_and] at hat;subst hat;rfl
 | some d=>rw [h2,hms] at hat;simp only [DataW.lit.injEq,Lit.int.injEq,true_and] at hat;subst hat;rfl
theorem fJ.drewN {w:World} {B n:Nat} {m:aj→Option Int} (h:fJ w B n m) (k:Nat):fJ (w.drewN k) B n m:=h.kept ((Kept.refl aB w).drewN k) (fun h=>h)
def yJ (m:aj→Option Int) (l:List aG) (x:aA):Int :=
 if x.kind≠6 then 0
 else if 0≤aJ x.name∧aJ x.name≠x.kids.length then 5
 else if aJ x.name<0∧(m x.name).isSome=false then 7
 else if aJ x.name<0∧xU l ((m x.name).getD 0)<x.kids.length then 5 else 0
def jQ (r:Int×Int) (e at_:Int):Int×Int:=if e=0 then r else wQ r (e,at_)
mutual
def pI (m:aj→Option Int) (l:List aG) (at_:Int):aA→Int×Int→Int×Int
 | .mk k t n nm kids,r=>jJ m l at_ kids (jQ r (yJ m l (.mk k t n nm kids)) at_)
def jJ (m:aj→Option Int) (l:List aG) (at_:Int):List aA→Int×Int→Int×Int
 | [],r=>r
 | x::q,r=>jJ m l at_ q (pI m l at_ x r)
end
theorem Es (m:aj→Option Int) (l:List aG) (at_:Int) (q:List aA) (j:Nat) (h:j<q.length) (r:Int×Int):jJ m l at_ (q.drop j) r=jJ m l at_ (q.drop (j+1)) (pI m l at_ q[j] r):=by
 rw [List.drop_eq_getElem_cons h,jJ]
theorem U3 (T B1 B2 n2 N:Nat) (mF:aj→Option Int) (l:List aG) (al:Option Addr) (cl:Nat) (S:Nat→Prop) (at_:Int) (hmF:∀s d,mF s=some d→∃k:Nat,d=k∧k<l.length) (hTN:T≠N) (hBN:B2≠N) (hlen:l.length≤1048576) :
  ∀(m:Nat) (x:aA) (b o:Nat) (r:Int×Int) (w:World),sizeT x≤m→aW w S b o x→oU w S al l→Safe S (· = N) w.heap.size→rD w T B1 B2→fJ w B2 n2 mF→Fs N r w→
  Calls Tryz.prog 66 #[.pointer (some ⟨T,0,none⟩),.slice al l.length cl,.pointer (some ⟨b,o,none⟩),.int .i64 at_,.pointer (some ⟨N,0,none⟩)] w (Yf N (pI mF l at_ x r) w):=by
 intro m
 induction m with
 | zero=>intro x b o r w hm;have:=Ci x;omega
 | succ m ih =>
 intro x b o r w hm hp hl hS hT hM hF
 obtain ⟨k,t,n,nm,kids⟩:=x
 have hih:∀(j:Nat) (hj:j<kids.length) (b o:Nat) (r:Int×Int) (w:World),aW w S b o kids[j]→oU w S al l→Safe S (· = N) w.heap.size→rD w T B1 B2→fJ w B2 n2 mF→Fs N r w→
   Calls Tryz.prog 66 #[.pointer (some ⟨T,0,none⟩),.slice al l.length cl,.pointer (some ⟨b,o,none⟩),.int .i64 at_,.pointer (some ⟨N,0,none⟩)] w (Yf N (pI mF l at_ kids[j] r) w) :=
  fun j hj b o r w h1 h2 h3 h4 h5 h6=>ih kids[j] b o r w (by have:=qy kids j hj;simp only [sizeT] at hm;omega) h1 h2 h3 h4 h5 h6
 have HP:=ah hp
 unfold aW at hp
 obtain ⟨_,⟨_,hnz,hkl⟩,q0,_,_,q3,ka,cap,q4,_⟩:=hp
 have hnl:nm.size≤maxLen:=by unfold maxLen;omega
 have HIH:=ah hih;have HL:=ah hl;have HS:=ah hS;have HT:=ah hT;have HM:=ah hM;have HF:=ah hF;have HMF:=ah hmF
 have hr:Hid (pI mF l at_ (.mk k t n nm kids) r=jJ mF l at_ kids (jQ r (yJ mF l (.mk k t n nm kids)) at_)):=by unfold Hid;rw [pI]
 obtain ⟨x0,x1⟩:=HT.out.cells
 have hlook:∀i,(Instr.lookup 98 (.map (some B2)) (.string nm) true).run Tryz.prog (w.drewN i)=.ok (.tuple #[.int .i64 ((mF nm).getD 0),.bool (mF nm).isSome]) (w.drewN i):=fun i=>(HM.out.drewN i).look_ok nm hnl
 clear hih ih hm hl hS hT hM hF
 go_enter Tryz.func66, Tryz.ntmps66
 go_upto_if 18 with fail
 go_cut [18] (fun c wx=>Fs N (jQ r (yJ mF l (.mk k t n nm kids)) at_) wx∧Kept (· = N) w wx)
 case first =>
  by_cases h6:k=6
  ·have z1:(k==6)=true:=by simpa using h6
   go_wp2_with fail
   go_quiet (fail)
   go_wp2_with fail
   refine (nC nm _).mono ?_
   rintro e w' ⟨rfl,rfl⟩
   have hcs:Hid (yJ mF l (.mk k t n nm kids)=if 0≤aJ nm∧aJ nm≠kids.length then 5 else if aJ nm<0∧(mF nm).isSome=false then 7 else if aJ nm<0∧xU l ((mF nm).getD 0)<kids.length then 5 else 0):=by
    exact if_neg (fun h=>h h6)
   have hrg : -1≤aJ nm∧aJ nm≤3:=by unfold aJ;split<;>(try split)<;>(try split)<;>omega
   have HFq:Hid (Fs N r (w.drewN nq)):=HF.out.kept ((Kept.refl aB w).drewN nq) (fun h=>h)
   have KQ:Hid (Kept (· = N) w (w.drewN nq)):=(Kept.refl (· = N) w).drewN nq
   generalize hcl:yJ mF l (.mk k t n nm kids)=ce at *
   generalize hbn:aJ nm=bn at *
   clear hbn h6 hlook hr hcl
   by_cases hn:0≤bn
   ·have e1:decide (0≤bn)=true:=ak hn
    have e3:decide (bn<0)=false:=au (by omega)
    by_cases hne:bn=(kids.length:Int)
    ·have e2:(bn != (kids.length:Int))=false:=by simpa using hne
     have fin:Hid (ce=0):=by unfold Hid;rw [hcs.out,if_neg (fun h=>h.2 hne),if_neg (by omega),if_neg (by omega)]
     clear hne hn
     go_wp2_with fail
     go_quiet (fail)
     go_wp2_with fail
     go_meet
     exact ⟨by rw [fin.out];exact HFq.out.kept ((Kept.refl aB _).drewN _) (fun h=>h),KQ.out.drewN _⟩
    ·have e2:(bn != (kids.length:Int))=true:=by simpa using hne
     have fin:Hid (ce=5):=by unfold Hid;rw [hcs.out,if_pos ⟨hn,hne⟩]
     clear hne hn
     go_wp2_with (go_at_call 58;(with_reducible refine (qQ N r 5 at_ _ HFq.out).mono ?_);rintro e w3 ⟨rfl,yK,bH⟩;have F3:=ah yK;have K3:=ah (KQ.out.trans bH);clear yK bH)
     go_meet
     exact ⟨by rw [fin.out];exact F3.out,K3.out⟩
   have e1:decide (0≤bn)=false:=au hn
   have e3:decide (bn<0)=true:=ak (by omega)
   cases hm:mF nm with
   | none =>
    have fin:Hid (ce=7):=by unfold Hid;rw [hcs.out,if_neg (fun h=>hn h.1),if_pos ⟨by omega,by rw [hm];rfl⟩]
    clear hn
    dsimp only [Option.isSome,Option.getD]
    go_wp2_with (go_at_call 58;(with_reducible refine (qQ N r 7 at_ _ HFq.out).mono ?_);rintro e w3 ⟨rfl,yK,bH⟩;have F3:=ah yK;have K3:=ah (KQ.out.trans bH);clear yK bH)
    go_meet
    exact ⟨by rw [fin.out];exact F3.out,K3.out⟩
   | some d =>
    obtain ⟨dn,rfl,hdn⟩:=HMF.out nm d hm
    obtain ⟨bl,ol,rfl,hcl⟩:=HL.out (by omega)
    obtain ⟨ad,_,hzd,hcd,_⟩:=hcl dn hdn
    have x19:=hcd 19 (by decide)
    have hpl:xU l ((dn:Nat):Int)=l[dn].params.length:=by unfold xU;rw [Int.toNat_natCast,List.getElem?_eq_getElem hdn]
    have hpz:=hzd.params.1
    have aju:_=some (Value.slice ad.ma l[dn].params.length ad.mc):=x19
    have hcs':Hid (ce=if l[dn].params.length<kids.length then 5 else 0):=by
     have h1:=hcs.out
     rw [if_neg (fun h=>hn h.1),if_neg (fun h=>by have h2:=h.2;rw [hm] at h2;cases h2)] at h1
     unfold Hid
     rw [h1]
     simp only [hm,Option.getD,hpl]
     by_cases hq:l[dn].params.length<kids.length
     ·rw [if_pos ⟨by omega,hq⟩,if_pos hq]
     ·rw [if_neg (fun h=>hq h.2),if_neg hq]
    clear hcl hcd hzd x19 hpl hcs
    generalize l[dn].params.length=pl at *
    dsimp only [Option.isSome,Option.getD]
    by_cases hq:pl<kids.length
    ·have e4:decide ((pl:Int)<(kids.length:Int))=true:=ak (by omega)
     have e5:decide (pl<kids.length)=true:=ak hq
     have fin:Hid (ce=5):=hcs'.out.trans (if_pos hq)
     clear hn hq
     go_wp2_with fail
     go_quiet (fail)
     go_wp2_with (go_at_call 58;(refine (qQ N r 5 at_ _ (HF.out.kept ((Kept.refl aB w).drewN _) (fun h=>h))).mono ?_);rintro e w3 ⟨rfl,yK,bH⟩;have F3:=ah yK;have K3:=ah (((Kept.refl (· = N) w).drewN _).trans bH);clear yK bH)
     go_meet
     exact ⟨by rw [fin.out];exact F3.out,K3.out⟩
    ·have e4:decide ((pl:Int)<(kids.length:Int))=false:=au (by omega)
     have e5:decide (pl<kids.length)=false:=au hq
     have fin:Hid (ce=0):=hcs'.out.trans (if_neg hq)
     clear hn hq
     go_wp2_with fail
     go_quiet (fail)
     go_wp2_with fail
     go_meet
     exact ⟨by rw [fin.out];exact HFq.out.kept ((Kept.refl aB _).drewN _) (fun h=>h),KQ.out.drewN _⟩
  ·have z1:(k==6)=false:=by simpa using h6
   have fin:Hid (yJ mF l (.mk k t n nm kids)=0):=if_pos h6
   clear h6 hlook
   go_wp2_with fail
   go_meet
   exact ⟨by rw [fin.out];exact HF.out,Kept.refl _ _⟩
 case rest =>
  obtain ⟨hF1,hk1⟩:=hcut
  have F1:=ah hF1;have K1:=ah hk1
  have hp1:=HP.out.kept hk1 HS.out
  unfold aW at hp1
  obtain ⟨_,_,_,_,_,_,ka1,cap1,q41,_⟩:=hp1
  clear hF1 hk1 q0 q3 q4 x0 x1 hlook HF
  go_wp2_with fail
  go_loopw [86] (fun i wr=>∃(j:Nat) (r2:Int×Int),j≤kids.length∧i=.int .i64 j∧Hid (pI mF l at_ (.mk k t n nm kids) r=jJ mF l at_ (kids.drop j) r2)∧Fs N r2 wr∧Kept (· = N) w wr) (fun i _=>kids.length-(intOf i).toNat)
  case atStart=>exact ⟨0,_,Nat.zero_le _,rfl,by unfold Hid;rw [hr.out,List.drop_zero],F1.out,K1.out⟩
  case round =>
   obtain ⟨j,r2,hj,rfl,hno,hf2,hkw⟩:=hrel
   have KW:=ah hkw;have F2:=ah hf2
   by_cases hlt:j<kids.length
   ·have hp2:=HP.out.kept hkw HS.out
    unfold aW at hp2
    obtain ⟨_,_,_,_,_,_,ka2,cap2,q42,hks⟩:=hp2
    obtain ⟨b1,o1,rfl⟩:=pU hks (by omega)
    have BM:=ah (oQ kids b1 o1 j hlt hks)
    have step:=ah (hno.out.trans (Es mF l at_ kids j hlt r2))
    have L2:=ah (HL.out.to hkw HS.out (fun _ h=>h));have S2:=ah (HS.out.mono hkw.size);have T2:=ah (HT.out.kept hkw hTN);have M2:=ah (HM.out.kept hkw hBN)
    clear hks hkw hf2
    go_wp2_with fail
    refine (HIH.out j hlt b1 (o1+j*5) r2 _ BM.out L2.out S2.out T2.out M2.out F2.out).mono ?_
    rintro e w3 ⟨rfl,yK,bH⟩
    have F3:=ah yK;have K3:=ah (KW.out.trans bH)
    clear yK bH
    go_wp2_with fail
    go_roundw
    case rel=>exact ⟨j+1,_,by omega,by go_num,step,F3.out,K3.out⟩
    case measure=>simp [intOf];omega
   ·obtain rfl:j=kids.length:=by omega
    have fin:Hid (pI mF l at_ (.mk k t n nm kids) r=r2):=by unfold Hid;rw [hno.out,List.drop_length,jJ]
    go_wp2_with fail
    refine bodyPost_ret (v:=.tuple #[]) (by simp [results,Tryz.results66,go_sem]) rfl ⟨rfl,by rw [fin.out];exact F2.out,KW.out⟩
end Go.Proofs.YtgoijmpahffnhaaGreatDoor

namespace Go.Proofs.YtgoijmpahffnhaaGreatDoor
set_option linter.all false
open Go.RowKit
set_option maxRecDepth 100000
set_option maxHeartbeats 1000000
def xI (l:List aj):Prop:=∀x (h:x<l.length),∀y (hy:y<x),l[x]≠l[y]'(by omega)
theorem contains_iff (l:List aj) (n:Nat) (hn:n≤l.length) (x:aj):Lib.containsS (l.take n) x=true↔∃y,∃(h:y<n),l[y]'(by omega)=x:=by
 rw [Lib.containsS_iff]
 constructor
 ·intro h
  obtain ⟨y,hy,e⟩:=List.getElem_of_mem h
  rw [List.getElem_take] at e
  rw [List.length_take] at hy
  exact ⟨y,by omega,e⟩
 ·rintro ⟨y,hy,rfl⟩
  have hl:y<(l.take n).length:=by rw [List.length_take];omega
  have:(l.take n)[y]=l[y]'(by omega):=List.getElem_take
  rw [←this];exact List.getElem_mem hl
def afz (l:List aj) (w:World) (e:Ending) (w':World):Prop:=∃b:Bool,e=.returned (.bool b)∧(b=false↔xI l)∧w'=w
theorem wJ (l:List aj) (a:Option Addr) (c:Nat) (S:Nat→Prop) (w:World) (hl:bU w S a l) (hlc:l.length≤c) (hlen:l.length≤4000000000) :
  Calls Tryz.prog 63 #[.slice a l.length c] w (afz l w):=by
 have HL:=ah hl
 clear hl
 go_enter Tryz.func63, Tryz.ntmps63
 go_wp2_with fail
 go_loop [7] (fun i=>∃j:Nat,j≤l.length∧i=.int .i64 j∧Hid (∀x (h:x<l.length),x<j→∀y (hy:y<x),l[x]≠l[y]'(by omega))) (fun i=>l.length-(intOf i).toNat)
 case atStart=>exact ⟨0,Nat.zero_le _,rfl,by intro x _ hx;omega⟩
 case round =>
  obtain ⟨j,hj,rfl,hno⟩:=hrel
  by_cases hlt:j<l.length
  ·obtain ⟨b,o,rfl,_,hc⟩:=HL.out (by omega)
   have hcj:=hc j hlt
   have HC:Hid (∀x,x<l.length→w.cell? ⟨b,o+x,none⟩=some (.string (l.getD x ByteArray.empty))):=fun x hx=>by rw [hc x hx,List.getD_eq_getElem?_getD,List.getElem?_eq_getElem hx];rfl
   have hjc:j≤c:=by omega
   clear hc
   by_cases h0:j=0
   ·subst h0
    rw [Nat.add_zero] at hcj
    have step:Hid (∀x (h:x<l.length),x<0+1→∀y (hy:y<x),l[x]≠l[y]'(by omega)):=by intro x _ hx y hy;omega
    go_wp2_with (go_at_call 64;refine (Tryz.slices_Contains_string_empty _ _ _ w).mono ?_;rintro e w' ⟨rfl,rfl⟩)
    go_round
    case rel=>exact ⟨0+1,by omega,by go_num,step⟩
    case measure=>simp [intOf];omega
   ·cases hq:Lib.containsS (l.take j) l[j] with
    | true =>
     obtain ⟨y,hy,he⟩:=(contains_iff l j (by omega) l[j]).1 hq
     have fin:Hid (¬xI l):=fun h=>h j hlt y hy he.symm
     have HQ:=ah hq
     clear hq
     go_wp2_with (go_at_call 64;refine (Tryz.slices_Contains_string b o j c l l[j] w (by omega) (by omega) HC.out).mono ?_;rintro e w' ⟨rfl,rfl⟩;rw [HQ.out])
     go_ret
     exact ⟨true,rfl,⟨fun h=>(by cases h),fun h=>absurd h fin.out⟩,rfl⟩
    | false =>
     have step:Hid (∀x (h:x<l.length),x<j+1→∀y (hy:y<x),l[x]≠l[y]'(by omega)):=by
      intro x h hx y hy
      rcases Nat.lt_or_ge x j with h1|h1
      ·exact hno.out x h h1 y hy
      ·obtain rfl:x=j:=by omega
       intro he
       have:=(contains_iff l x (by omega) l[x]).2 ⟨y,hy,he.symm⟩
       rw [hq] at this;cases this
     have HQ:=ah hq
     clear hq
     go_wp2_with (go_at_call 64;refine (Tryz.slices_Contains_string b o j c l l[j] w (by omega) (by omega) HC.out).mono ?_;rintro e w' ⟨rfl,rfl⟩;rw [HQ.out])
     go_round
     case rel=>exact ⟨j+1,by omega,by go_num,step⟩
     case measure=>simp [intOf];omega
  ·obtain rfl:j=l.length:=by omega
   have fin:Hid (xI l):=fun x h y hy=>hno.out x h h y hy
   go_wp2_with fail
   go_ret
   exact ⟨false,rfl,⟨fun _=>fin.out,fun _=>rfl⟩,rfl⟩
end Go.Proofs.YtgoijmpahffnhaaGreatDoor

namespace Go.Proofs.YtgoijmpahffnhaaGreatDoor
set_option linter.all false
open Go.RowKit
set_option maxRecDepth 100000
set_option maxHeartbeats 1000000
def ChQ (n:Nat) (xs:List Value) (w:World) (e:Ending) (w':World):Prop:=∃v,e=.returned v∧Ch w' w.heap.size n xs v∧Kept aB w w'
theorem aa4 (w:World) (k:Nat) (h0:0<k) (hk:k≤4000000000):∃cap w',(Builtin.append_ #[22,3] 22 #[.slice none 0 0,.int .i64 (k:Int)]).run Tryz.prog w=.ok (.slice (some ⟨w.heap.size,0,none⟩) k cap) w'∧
  Kept aB w w'∧Ch w' w.heap.size 0 [] (.slice (some ⟨w.heap.size,0,none⟩) 0 cap)∧k≤cap∧cap≤maxLen:=by
 obtain ⟨i0,hi0,hz0,hz1,hz2⟩:=info_parts zO
 have h:=Lib.run_append_grow_zeros (P:=Tryz.prog) w 22 3 22 9 i0 (.string ⟨#[]⟩) .i64 .i64 Tryz.underlying22 Tryz.underlying3 hi0 hz0 none 0 0 [] (by simp [Builtin.firstCells]) k h0 (by rw [hz1];decide) (by omega) (by omega) (by rw [hz2];omega) (growslice_fits (by omega) (by rw [hz2];omega))
 rw [Nat.zero_add] at h
 have hge:=grownCap_ge w k 0 9
 have hcm:grownCap w k 0 9≤maxLen:=grownCap_le_maxLen w k 0 9 (by unfold maxLen;omega)
 refine ⟨_,_,h,((Kept.refl aB w).drew).alloc _,⟨_,_,rfl,by simp,.inr ⟨w.heap.size,0,_,_,rfl,Nat.le_refl _,ay w.drew _,Nat.zero_le _,hcm,?_,by simp⟩⟩,hge,hcm⟩
 rw [Array.size_append,Array.size_append,List.size_toArray,size_zeroCells,size_zeroCells]
 have hzs:(Value.string ⟨#[]⟩).cells.size=1:=rfl
 rw [hzs]
 simp only [List.length_nil]
 omega
theorem PO {w:World} {ops:Array Oper} {rest:List Oper} {o:Oper} {a:Act} {Q:Exit→Act→World→Prop} (hgd:o.guard=none) (s x:Operand) (hty:o.type=22)
  (ho:o.op=.call {callee:=.builtin .append,args:=#[s,x],argTypes:=#[22,3]}) (hs:a.eval s=.slice none 0 0) (k:Nat) (hx:a.eval x=.int .i64 (k:Int)) (h0:0<k) (hk:k≤4000000000)
  (h:∀b cap w',Kept aB w w'→Ch w' w.heap.size 0 [] (.slice (some ⟨b,0,none⟩) 0 cap)→k≤cap→cap≤maxLen→wpList Tryz.prog ops Q rest (a.put o.dst (.slice (some ⟨b,0,none⟩) k cap)) w'):wpList Tryz.prog ops Q (o::rest) a w:=by
 refine wpList_plain hgd fun _ hK=>?_
 obtain ⟨cap,w',hr,h1,h2,h3,h4⟩:=aa4 w k h0 hk
 unfold Oper.wp execOp
 simp only [ho,hty,resolve,invoke,builtin,Sem.run_bind,Sem.run_pure,Result.andThen_ok,List.map_toArray,List.map_cons,List.map_nil,hs,hx,hr]
 exact hK _ _ (h _ cap w' h1 h2 h3 h4)
theorem Yg (k:Nat) (w:World) (hk:k≤4000000000):Calls Tryz.prog 97 #[.slice none 0 0,.int .i64 (k:Int)] w (ChQ 0 [] w):=by
 have e1:decide ((k:Int)<0)=false:=au (by omega)
 have hwr:IntKind.i64.wrap (k:Int)=k:=IntWalk.i64_in _ (by omega)
 by_cases h0:k=0
 ·subst h0
  go_enter Tryz.func97, Tryz.ntmps97
  go_wp2_with fail
  go_ret
  exact ⟨.slice none 0 0,rfl,⟨_,_,rfl,aS.nil ..⟩,Kept.refl _ _⟩
 ·have hp:0<k:=by omega
  have e3:decide (0<k)=true:=ak hp
  have e2:decide ((0:Int)<(k:Int))=true:=ak (by omega)
  clear h0
  go_enter Tryz.func97, Tryz.ntmps97
  go_wp2_with (at_builtin;go_loud (refine PO rfl _ _ rfl rfl rfl k rfl hp hk ?_);rintro b cap w' bY c1_ hkc hcm;have HK:=ah bY;have HC:=ah c1_;clear bY c1_)
  go_ret
  exact ⟨_,rfl,HC.out,HK.out⟩
theorem Sm (b:Nat) (p q:List aj) (pa la:Option Addr) (pc lc:Nat) (S:Nat→Prop) (w:World) (h0:w.cell? ⟨b,0,none⟩=some (.slice pa p.length pc)) (h1:w.cell? ⟨b,1,none⟩=some (.slice la q.length lc)) (hb:b<w.heap.size)
  (hp:bU w S pa p) (hq:bU w S la q) (hS:Safe S aB w.heap.size) (hpl:p.length≤1000000000) (hql:q.length≤1000000000) :
  Calls Tryz.prog 61 #[.slice (some ⟨b,0,none⟩) 2 2] w (ChQ (p.length+q.length) (p.map Value.string++q.map Value.string) w):=by
 have HP:=ah hp;have HQ:=ah hq;have HS:=ah hS
 clear hp hq hS
 have w1:IntKind.i64.wrap ((p.length:Int))=p.length:=IntWalk.i64_in _ (by omega)
 have w2:IntKind.i64.wrap ((p.length:Int)+q.length)=((p.length+q.length:Nat):Int):=IntWalk.i64_in _ (by omega)
 have e1:decide ((p.length:Int)<0)=false:=au (by omega)
 have e2:decide (((p.length+q.length:Nat):Int)<0)=false:=au (by omega)
 obtain ⟨i0,hi0,hz0,hz1,hz2⟩:=info_parts zO
 go_enter Tryz.func61, Tryz.ntmps61
 go_wp2_with fail
 go_loop [11,3] (fun i s=>(i=.int .i64 0∧s=.int .i64 0)∨(i=.int .i64 1∧s=.int .i64 p.length)∨(i=.int .i64 2∧s=.int .i64 (p.length+q.length:Nat))) (fun i s=>2-(intOf i).toNat)
 case atStart=>exact .inl ⟨rfl,rfl⟩
 case round =>
  rcases hrel with ⟨rfl,rfl⟩|⟨rfl,rfl⟩|⟨rfl,rfl⟩
  ·go_wp2_with fail
   go_round
   case rel=>exact .inr (.inl ⟨rfl,rfl⟩)
   case measure=>simp [intOf]
  ·go_wp2_with fail
   go_round
   case rel=>exact .inr (.inr ⟨rfl,rfl⟩)
   case measure=>simp [intOf]
  ·have HG:=ah (Yg (p.length+q.length) w (by omega))
   go_wp2_with (go_at_call 97;(refine HG.out.mono ?_);rintro e w3 ⟨v3,rfl,⟨a3,c3,rfl,hw3⟩,bH⟩;have W3:=ah hw3;have K3:=ah bH;clear hw3 bH)
   go_loopw [27,6] (fun i v w'=>(i=.int .i64 0∧Ch w' w.heap.size 0 [] v∧Kept aB w w')∨(i=.int .i64 1∧Ch w' w.heap.size p.length (p.map Value.string) v∧Kept aB w w')∨(i=.int .i64 2∧Ch w' w.heap.size (p.length+q.length) (p.map Value.string++q.map Value.string) v∧Kept aB w w')) (fun i _ _=>2-(intOf i).toNat)
   case atStart=>exact .inl ⟨rfl,⟨a3,c3,rfl,W3.out⟩,K3.out⟩
   case round =>
    rcases hrel with ⟨rfl,⟨a4,c4,rfl,hw4⟩,hk4⟩|⟨rfl,⟨a4,c4,rfl,hw4⟩,hk4⟩|⟨rfl,⟨a4,c4,rfl,hw4⟩,hk4⟩
    ·have x0:wr.cell? ⟨b,0,none⟩=some (.slice pa p.length pc):=(hk4.cell hb (fun h=>h)).trans h0
     have SR:=ah (Fp (HP.out.to hk4 HS.out (fun _ h=>h)) pc)
     have WV:=ah hw4;have KV:=ah hk4
     have hb4:=hk4.size
     clear hw4 hk4
     go_wp2_with (at_builtin;go_loud (refine dK _ rfl (.tmp 31) (.tmp 32) 22 22 rfl w.heap.size 9 i0 (.string ⟨#[]⟩) 1 16 Tryz.underlying22 hi0 hz0 hz1 hz2 rfl _ 0 [] rfl WV.out _ p.length (p.map Value.string) rfl SR.out (by unfold maxLen;omega) (by omega) hb4 ?_);intro a5 c5 w5 U4 hg5 _;have K5:=ah (KV.out.grown hg5 fun k hk=>.inr (WV.out.lt k hk).1))
     go_roundw
     case rel=>exact .inr (.inl ⟨rfl,⟨a5,c5,rfl,by first|exact U4|(rw [Nat.zero_add] at U4;exact U4)⟩,K5.out⟩)
     case measure=>simp [intOf]
    ·have x0:wr.cell? ⟨b,1,none⟩=some (.slice la q.length lc):=(hk4.cell hb (fun h=>h)).trans h1
     have SR:=ah (Fp (HQ.out.to hk4 HS.out (fun _ h=>h)) lc)
     have WV:=ah hw4;have KV:=ah hk4
     have hb4:=hk4.size
     clear hw4 hk4
     go_wp2_with (at_builtin;go_loud (refine dK _ rfl (.tmp 31) (.tmp 32) 22 22 rfl w.heap.size 9 i0 (.string ⟨#[]⟩) 1 16 Tryz.underlying22 hi0 hz0 hz1 hz2 rfl _ p.length (p.map Value.string) rfl WV.out _ q.length (q.map Value.string) rfl SR.out (by unfold maxLen;omega) (by omega) hb4 ?_);intro a5 c5 w5 U4 hg5 _;have K5:=ah (KV.out.grown hg5 fun k hk=>.inr (WV.out.lt k hk).1))
     go_roundw
     case rel=>exact .inr (.inr ⟨rfl,⟨a5,c5,rfl,U4⟩,K5.out⟩)
     case measure=>simp [intOf]
    ·have fin:Hid (ChQ (p.length+q.length) (p.map Value.string++q.map Value.string) w (.returned (.slice a4 (p.length+q.length) c4)) wr):=⟨_,rfl,⟨a4,c4,rfl,hw4⟩,hk4⟩
     go_wp2_with fail
     go_ret
     exact fin.out
end Go.Proofs.YtgoijmpahffnhaaGreatDoor
