/-  -/
import Derived.Test.YtodebjhalipefaaGreatDoorLq25
import Derived.LaidEql
import Derived.Test.YtodebjhalipefaaGreatDoorLq11
namespace Go.Proofs.YtodebjhalipefaaGreatDoor
set_option linter.all false
open Go.RowKit
set_option maxRecDepth 100000
set_option maxHeartbeats 16000000
theorem abr (d M i j:Nat) (w:World):(Op.equalIn (d+1) 186 (.pointer (some ⟨M,i,none⟩)) (.pointer (some ⟨M,j,none⟩))).run Tryz.prog w=.ok (decide (i=j)) w:=by
 have hsz:(sizeOf 9).run Tryz.prog w=.ok 1 w:=by kernel_rfl
 by_cases h:i=j
 ·subst h;simp [Op.equalIn,run_underlying Tryz.underlying186,hsz,sameAddr]
 ·simp [Op.equalIn,run_underlying Tryz.underlying186,hsz,sameAddr,h]
theorem acp (M i j:Nat) (w:World):(binOp .eql 186 (.pointer (some ⟨M,i,none⟩)) (.pointer (some ⟨M,j,none⟩))).run Tryz.prog w=.ok (.bool (decide (i=j))) w:=by
 simp only [binOp]
 simp [Op.equal,Op.maxDepth,abr 9999]
theorem Vs (M:Nat) (w:World):(binOp .eql 186 (.pointer (some ⟨M,22,none⟩)) (.pointer (some ⟨M,22,none⟩))).run Tryz.prog w=.ok (.bool true) w:=acp M 22 22 w
theorem YO (M:Nat) (w:World):(binOp .eql 186 (.pointer (some ⟨M,23,none⟩)) (.pointer (some ⟨M,22,none⟩))).run Tryz.prog w=.ok (.bool false) w:=acp M 23 22 w
def kS (en:Nat):Nat→aF→List aC→aZ aF
 | 0,s,l=>.ok (s,l)
 | f+1,s,l =>
  if f=0∧l=[] then .ok (s,l)
  else match dZ 1 en l with
   | .error er=>.error er
   | .ok (t,r) =>
    if t.text=bs [83] then
     if s.yes≠E0∨f=0 then .error (2,dJ en l)
     else match dQ en r with
      | .error er=>.error er
      | .ok (n,r1)=>kS en f {s with yes:=n} r1
    else if t.text=bs [70] then
     if s.bU≠E0 then .error (2,dJ en l)
     else match dQ en r with
      | .error er=>.error er
      | .ok (n,r1)=>kS en f {s with bU:=n} r1
    else .error (2,dJ en l)
theorem YP {k:Int} {en:Nat} {l:List aC} {er:Er} (h:dZ k en l=.error er):er=(2,dJ en l):=by
 cases l with
 | nil=>simp only [dZ,Except.error.injEq] at h;exact h.symm
 | cons t r =>
  simp only [dZ] at h
  split at h
  ·cases h
  ·simp only [Except.error.injEq] at h;exact h.symm
theorem La {k:Int} {en:Nat} {l r:List aC} {t:aC} (h:dZ k en l=.ok (t,r)):l=t::r∧t.kind=k:=by
 cases l with
 | nil=>cases h
 | cons u v =>
  simp only [dZ] at h
  split at h
  ·next hk=>simp only [Except.ok.injEq,Prod.mk.injEq] at h;obtain ⟨rfl,rfl⟩:=h;exact ⟨rfl,hk⟩
  ·cases h
theorem Ic {x:aj} {en:Nat} {l r:List aC} (h:dW x en l=.ok r):r=l.tail:=by
 unfold dW at h
 split at h
 ·simp only [Except.ok.injEq] at h;exact h.symm
 ·cases h
theorem oD.tail {l:List aC} (h:oD l):oD l.tail:=by
 cases l with
 | nil=>exact h
 | cons t r=>exact fun u hu=>h u (List.mem_cons_of_mem _ hu)
theorem adC {en:Nat} {l r:List aC} {x:aj} (hb:oD l) (h:dL en l=.ok (x,r)):x≠E0∧r=l.tail:=by
 unfold dL at h
 split at h
 ·cases h
 ·next t r1 ht =>
  obtain ⟨rfl,hk⟩:=La ht
  split at h
  ·cases h
  ·simp only [Except.ok.injEq,Prod.mk.injEq] at h;obtain ⟨rfl,rfl⟩:=h
   exact ⟨fun e=>(hb t (List.mem_cons_self ..)).2.2.2.2 hk (by rw [e];rfl),rfl⟩
theorem uN {en:Nat} {l r:List aC} {x:aj} (hb:oD l) (h:dQ en l=.ok (x,r)):x≠E0∧oD r∧r.length≤l.length∧x.size≤16:=by
 unfold dQ at h
 split at h
 ·cases h
 ·next r1 h1 =>
  split at h
  ·cases h
  ·next n r2 h2 =>
   split at h
   ·cases h
   ·next r3 h3 =>
    simp only [Except.ok.injEq,Prod.mk.injEq] at h;obtain ⟨rfl,rfl⟩:=h
    have e1:=Ic h1;have e3:=Ic h3
    have b1:oD r1:=by rw [e1];exact hb.tail
    obtain ⟨hne,e2⟩:=adC b1 h2
    have b2:oD r2:=by rw [e2];exact b1.tail
    have l1:=mJ h1;have l2:=jQ h2;have l3:=mJ h3
    exact ⟨hne,by rw [e3];exact b2.tail,by omega,iF h2⟩
theorem adD {en:Nat} {s:aF} {l:List aC} (hb:oD l) (hy:s.yes=E0) (hn:s.bU=E0) (hs:aG (bs [40]) l=false):eX en s l=kS en 2 s l:=by
 have e83:bs [70]≠bs [83]:=by decide
 unfold eX kS
 rw [hs]
 simp only [if_false,Bool.false_eq_true,show ¬((1:Nat)=0∧l=[]) from fun h=>by simp at h]
 cases ht:dZ 1 en l with
 | error er=>rfl
 | ok x =>
  obtain ⟨t,r⟩:=x
  obtain ⟨rfl,hk⟩:=La ht
  have hbr:oD r:=hb.tail
  dsimp only
  by_cases h1:t.text=bs [83]
  ·rw [if_pos h1,if_pos h1,if_neg (by rw [hy];simp)]
   cases hl:dQ en r with
   | error er=>rfl
   | ok y =>
    obtain ⟨n,r1⟩:=y
    obtain ⟨hne,hb1,_,_⟩:=uN hbr hl
    dsimp only
    unfold kS
    by_cases h0:r1=[]
    ·rw [if_pos h0,if_pos ⟨rfl,h0⟩]
    ·rw [if_neg h0,if_neg (fun h=>h0 h.2)]
     cases ht2:dZ 1 en r1 with
     | error er=>rfl
     | ok z =>
      obtain ⟨u,r2⟩:=z
      dsimp only
      by_cases h2:u.text=bs [70]
      ·rw [if_pos h2,if_neg (by rw [h2];exact e83),if_pos h2,if_neg (by rw [hn];simp)]
       cases dQ en r2 with
       | error er=>rfl
       | ok y2=>rfl
      ·rw [if_neg h2]
       by_cases h3:u.text=bs [83]
       ·rw [if_pos h3,if_pos (.inr rfl)]
       ·rw [if_neg h3,if_neg h2]
  ·rw [if_neg h1,if_neg h1]
   by_cases h2:t.text=bs [70]
   ·rw [if_pos h2,if_pos h2,if_neg (by rw [hn];simp)]
    cases hl:dQ en r with
    | error er=>rfl
    | ok y =>
     obtain ⟨n,r1⟩:=y
     obtain ⟨hne,hb1,_,_⟩:=uN hbr hl
     dsimp only
     unfold kS
     by_cases h0:r1=[]
     ·rw [if_pos h0,if_pos ⟨rfl,h0⟩]
     ·rw [if_neg h0,if_neg (fun h=>h0 h.2)]
      cases ht2:dZ 1 en r1 with
      | error er=>rw [YP ht2]
      | ok z =>
       obtain ⟨u,r2⟩:=z
       dsimp only
       by_cases h3:u.text=bs [83]
       ·rw [if_pos h3,if_pos (.inr rfl)]
       ·rw [if_neg h3]
        by_cases h4:u.text=bs [70]
        ·rw [if_pos h4,if_pos hne]
        ·rw [if_neg h4]
   ·rw [if_neg h2,if_neg h2]
theorem dA.acr {N T en M:Nat} {s:aF} {l:List aC} {w:World} (h:dA N T en M s l w):w.cell? ⟨M,22,none⟩=some (.string s.yes)∧w.cell? ⟨M,23,none⟩=some (.string s.bU)∧w.frozen? ⟨M,22,none⟩=false∧w.frozen? ⟨M,23,none⟩=false:=by
 obtain ⟨a,S,hB,_⟩:=h.st
 exact ⟨by unfold bT at hB;rw [cell_of_row w M _ _ _ _ hB];rfl,by unfold bT at hB;rw [cell_of_row w M _ _ _ _ hB];rfl,hB.free 22,hB.free 23⟩
theorem acs (x:UInt8):([x]:List UInt8)=(⟨#[x]⟩:aj).toList:=by rw [ByteArray.toList_eq]
theorem Ed {x:aj} {c:UInt8} (h:x=bs [c]):(x.toList==[c])=true:=by rw [acs,bW];exact ak h
theorem AX {x:aj} {c:UInt8} (h:x≠bs [c]):(x.toList==[c])=false:=by rw [acs,bW];exact au h
theorem mM {x:aj} (h:x≠E0):x.toList.isEmpty=false:=by
 cases hx:x.toList.isEmpty with
 | false=>rfl
 | true =>
  exfalso;apply h
  rw [List.isEmpty_iff,ByteArray.toList_eq] at hx
  apply ByteArray.ext
  exact Array.toList_inj.1 hx
theorem jR:(E0:aj).toList.isEmpty=true:=by rw [ByteArray.toList_eq];rfl
theorem Vt {N T en M:Nat} {s:aF} {l:List aC} {w:World} (h:dA N T en M s l w) (hy0:s.yes=E0) (hn0:s.bU=E0):Calls Tryz.prog 69 #[.pointer (some ⟨N,0,none⟩),.pointer (some ⟨M,0,none⟩)] w (dB N T en M (eX en s l) w):=by
 have HS:Hid (Calls Tryz.prog 66 #[.pointer (some ⟨N,0,none⟩),.string ⟨#[40]⟩] w (LZ (aG ⟨#[40]⟩ l) w)):=by obtain ⟨_,_,_,h⟩:=h.bH;exact yE _ h
 have HB:Hid (oD l):=by obtain ⟨_,_,_,h⟩:=h.bH;exact h.good
 have I0:=ah h
 have K0:Hid (Kept (fun b=>b=N∨b=M) w w):=Kept.refl _ _
 cases hs:aG ⟨#[40]⟩ l with
 | true =>
  rw [hs] at HS
  have er:Hid (eX en s l=match dQ en l with | .error er=>.error er | .ok (n,r)=>.ok ({s with always:=n},r)):=by unfold Hid eX;rw [show aG (bs [40]) l=true from hs];rfl
  clear h hs hy0 hn0
  go_enter Tryz.func69, Tryz.ntmps69
  go_wp2_with (first
   | (go_at_call 66;(refine HS.out.mono ?_);rintro e w' ⟨rfl,aH⟩;obtain rfl:=aH.symm)
   | (go_at_call 107;(refine (nC I0.out.bH).mono ?_);intro e w4 h_;rcases hu:dQ en l with e0|⟨n,r⟩;(obtain ⟨k_,rfl⟩:=h_.bad hu;have f_:dB N T en M (eX en s l) w (.panicked [{v:=bI e0,recovered:=false}]) _:=dB.thrown K0.out k_ (by rw [er.out,hu]);exact ⟨rfl,f_⟩);(obtain ⟨k_,rfl,r_⟩:=h_.ok hu;have HU:=ah hu;have xF:=ah (uN HB.out hu);have I4:=ah (I0.out.aQ k_ r_ xF.out.2.2.1);have K4:=ah (K0.out.trans (fK k_));obtain ⟨v4,c4,f4⟩:=I4.out.slot 21 (by decide);clear k_ r_ h_ hu)))
  (first|go_end0|(refine bodyPost_ret (results_none rfl _ _ _) rfl ?_))
  exact dB.done (K4.out.trans (eU bP)) (I4.out.YK n (by have:=xF.out.2.2.2;omega)) (by rw [er.out,HU.out])
 | false =>
  rw [hs] at HS
  have er:Hid (eX en s l=kS en 2 s l):=adD HB.out hy0 hn0 hs
  clear h hs hy0 hn0
  have ep1:=Vs M;have ep2:=YO M
  go_enter Tryz.func69, Tryz.ntmps69
  go_wp2_with (go_at_call 66;(refine HS.out.mono ?_);rintro e w' ⟨rfl,aH⟩;obtain rfl:=aH.symm)
  go_loopg [4] 2 (fun f x wr=>∃(n:Nat) (s2:aF) (l2:List aC),x=.int .i64 n∧Hid (n+f=2)∧Hid (dA N T en M s2 l2 wr)∧Hid (Kept (fun b=>b=N∨b=M) w wr)∧Hid (eX en s l=kS en f s2 l2))
  case atStart=>exact ⟨0,s,l,rfl,by unfold Hid;decide,I0,K0,er⟩
  case round =>
   obtain ⟨n,s2,l2,rfl,hnf,I,K,hch⟩:=hrel
   clear HS
   obtain rfl|rfl|rfl:n=0∨n=1∨n=2:=by have:=hnf.out;omega
   ·obtain rfl:gk=2:=by have:=hnf.out;omega
    clear hnf
    have jL:Hid (eX en s l=match dZ 1 en l2 with | .error er=>.error er | .ok (t,r)=>(if t.text=bs [83] then (if s2.yes≠E0∨(1:Nat)=0 then .error (2,dJ en l2) else match dQ en r with | .error er=>.error er | .ok (n,r1)=>kS en 1 {s2 with yes:=n} r1) else if t.text=bs [70] then (if s2.bU≠E0 then .error (2,dJ en l2) else match dQ en r with | .error er=>.error er | .ok (n,r1)=>kS en 1 {s2 with bU:=n} r1) else .error (2,dJ en l2):aZ aF)):=by unfold Hid;rw [hch.out,kS,if_neg (fun h=>by simp at h)];try rfl
    clear hch
    have HA:Hid (Calls Tryz.prog 71 #[.pointer (some ⟨N,0,none⟩)] wr (vP (dJ en l2) wr)):=by obtain ⟨_,_,_,h⟩:=I.out.bH;exact kU h
    have hfld:∀(t:aC) wx,(Instr.field 130 (.agg #[.int .i64 t.kind,.string t.text,.int .i64 t.at_]) 1).run Tryz.prog wx=.ok (.string t.text) wx:=fun _ _=>by kernel_rfl
    go_upto_region 9 with (first
     | (go_at_call 71;(refine HA.out.mono ?_);rintro e w' ⟨rfl,aH⟩;obtain rfl:=aH.symm)
     | (go_at_call 101;(refine (rU 1 I.out.bH).mono ?_);intro e w3 h_;rcases hu:dZ 1 en l2 with e0|⟨t,r⟩;(obtain ⟨k_,rfl⟩:=h_.bad hu;have f_:dB N T en M (eX en s l) w (.panicked [{v:=bI e0,recovered:=false}]) _:=dB.thrown K.out k_ (by rw [jL.out,hu]);exact ⟨rfl,f_⟩);(obtain ⟨k_,Dv,r_⟩:=h_.ok hu;unfold EI at Dv;subst Dv;have HU:=ah hu;have hf1:=hfld t;have TB:Hid (oD r):=(by obtain ⟨_,_,_,h⟩:=r_;exact h.good);have I3:=ah (I.out.aQ k_ r_ (by have:=vG hu;omega));have K3:=ah (K.out.trans (fK k_));clear k_ r_ h_ hu)))
    clear hfld
    obtain ⟨y22,y23,g22,g23⟩:=I3.out.acr
    by_cases hS:t.text=bs [83]
    ·have q1:(t.text.toList==[83])=true:=Ed hS
     by_cases hy:s2.yes=E0
     ·have q2:s2.yes.toList.isEmpty=true:=by rw [hy];exact jR
      have DJ:Hid (eX en s l=match dQ en r with | .error er=>.error er | .ok (n,r1)=>kS en 1 {s2 with yes:=n} r1):=by unfold Hid;rw [jL.out,HU.out];dsimp only;rw [if_pos hS,if_neg (by rw [hy];simp)]
      clear hS jL hy
      cases hlb:dQ en r with
      | error e0 =>
       go_wp2_with (go_at_call 107;(refine (nC I3.out.bH).mono ?_);intro e w4 h_;obtain ⟨k_,rfl⟩:=h_.bad hlb;have K4:=ah k_;clear k_ h_)
       exact ⟨rfl,dB.thrown K3.out K4.out (by rw [DJ.out,hlb])⟩
      | ok y =>
       obtain ⟨n,r1⟩:=y
       have xF:=ah (uN TB.out hlb)
       have PD:Hid (eX en s l=kS en 1 {s2 with yes:=n} r1):=by unfold Hid;rw [DJ.out,hlb]
       go_wp2_with (go_at_call 107;(refine (nC I3.out.bH).mono ?_);intro e w4 h_;obtain ⟨k_,rfl,r_⟩:=h_.ok hlb;have I4:=ah (I3.out.aQ k_ r_ xF.out.2.2.1);have K4:=ah (K3.out.trans (fK k_));obtain ⟨v4,c4,f4⟩:=I4.out.slot 22 (by decide);clear k_ r_ h_)
       go_roundg 1
       case measure=>omega
       case rel=>exact ⟨1,{s2 with yes:=n},r1,by go_num,by unfold Hid;decide,I4.out.afy n (by have:=xF.out.2.2.2;omega),K4.out.trans (eU bP),PD⟩
     ·have q2:s2.yes.toList.isEmpty=false:=mM hy
      have fin:Hid (eX en s l=.error (2,dJ en l2)):=by unfold Hid;rw [jL.out,HU.out];dsimp only;rw [if_pos hS,if_pos (.inl hy)]
      clear hS jL hy
      go_wp2_with (go_at_call 70;(refine (dD _ 2 (dJ en l2) _).mono ?_);rintro e w9 ⟨rfl,rfl⟩)
      exact ⟨rfl,dB.thrown K3.out (Kept.refl _ _) fin.out⟩
    ·have q1:(t.text.toList==[83])=false:=AX hS
     by_cases hF:t.text=bs [70]
     ·have q3:(t.text.toList==[70])=true:=Ed hF
      by_cases hy:s2.bU=E0
      ·have q2:s2.bU.toList.isEmpty=true:=by rw [hy];exact jR
       have DJ:Hid (eX en s l=match dQ en r with | .error er=>.error er | .ok (n,r1)=>kS en 1 {s2 with bU:=n} r1):=by unfold Hid;rw [jL.out,HU.out];dsimp only;rw [if_neg hS,if_pos hF,if_neg (by rw [hy];simp)]
       clear hS hF jL hy
       cases hlb:dQ en r with
       | error e0 =>
        go_wp2_with (go_at_call 107;(refine (nC I3.out.bH).mono ?_);intro e w4 h_;obtain ⟨k_,rfl⟩:=h_.bad hlb;have K4:=ah k_;clear k_ h_)
        exact ⟨rfl,dB.thrown K3.out K4.out (by rw [DJ.out,hlb])⟩
       | ok y =>
        obtain ⟨n,r1⟩:=y
        have xF:=ah (uN TB.out hlb)
        have PD:Hid (eX en s l=kS en 1 {s2 with bU:=n} r1):=by unfold Hid;rw [DJ.out,hlb]
        go_wp2_with (go_at_call 107;(refine (nC I3.out.bH).mono ?_);intro e w4 h_;obtain ⟨k_,rfl,r_⟩:=h_.ok hlb;have I4:=ah (I3.out.aQ k_ r_ xF.out.2.2.1);have K4:=ah (K3.out.trans (fK k_));obtain ⟨v4,c4,f4⟩:=I4.out.slot 23 (by decide);clear k_ r_ h_)
        go_roundg 1
        case measure=>omega
        case rel=>exact ⟨1,{s2 with bU:=n},r1,by go_num,by unfold Hid;decide,I4.out.SN n (by have:=xF.out.2.2.2;omega),K4.out.trans (eU bP),PD⟩
      ·have q2:s2.bU.toList.isEmpty=false:=mM hy
       have fin:Hid (eX en s l=.error (2,dJ en l2)):=by unfold Hid;rw [jL.out,HU.out];dsimp only;rw [if_neg hS,if_pos hF,if_pos hy]
       clear hS hF jL hy
       go_wp2_with (go_at_call 70;(refine (dD _ 2 (dJ en l2) _).mono ?_);rintro e w9 ⟨rfl,rfl⟩)
       exact ⟨rfl,dB.thrown K3.out (Kept.refl _ _) fin.out⟩
     ·have q3:(t.text.toList==[70])=false:=AX hF
      have fin:Hid (eX en s l=.error (2,dJ en l2)):=by unfold Hid;rw [jL.out,HU.out];dsimp only;rw [if_neg hS,if_neg hF]
      clear hS hF jL
      go_wp2_with (go_at_call 70;(refine (dD _ 2 (dJ en l2) _).mono ?_);rintro e w9 ⟨rfl,rfl⟩)
      exact ⟨rfl,dB.thrown K3.out (Kept.refl _ _) fin.out⟩
   ·obtain rfl:gk=1:=by have:=hnf.out;omega
    clear hnf
    obtain ⟨n2,a2,c2,hP⟩:=I.out.bH
    obtain ⟨c0,c1,cd,cf⟩:=hP.c0
    have hn:=hP.num
    clear cf
    by_cases hl0:l2=[]
    ·have z:decide ((0:Int)<(n2:Int))=false:=by rw [hn,hl0];rfl
     have z':decide (0<n2)=false:=by rw [hn,hl0];rfl
     have fin:Hid (eX en s l=.ok (s2,l2)):=by unfold Hid;rw [hch.out,kS,if_pos ⟨rfl,hl0⟩]
     clear hn hP hl0
     go_wp2_with fail
     (first|go_end0|(refine bodyPost_ret (results_none rfl _ _ _) rfl ?_))
     exact dB.done K.out I.out fin.out
    have h0:0<n2:=by rw [hn];exact List.length_pos_iff.2 hl0
    have h1:(0:Int)<(n2:Int):=by omega
    have z:decide ((0:Int)<(n2:Int))=true:=ak h1
    have z':decide (0<n2)=true:=ak h0
    have HL0:=ah hl0
    have hch:Hid (eX en s l=kS en 1 s2 l2):=hch
    have jL:Hid (eX en s l=match dZ 1 en l2 with | .error er=>.error er | .ok (t,r)=>(if t.text=bs [83] then (if s2.yes≠E0∨(0:Nat)=0 then .error (2,dJ en l2) else match dQ en r with | .error er=>.error er | .ok (n,r1)=>kS en 0 {s2 with yes:=n} r1) else if t.text=bs [70] then (if s2.bU≠E0 then .error (2,dJ en l2) else match dQ en r with | .error er=>.error er | .ok (n,r1)=>kS en 0 {s2 with bU:=n} r1) else .error (2,dJ en l2):aZ aF)):=by unfold Hid;rw [hch.out,kS,if_neg (fun h=>HL0.out h.2)];try rfl
    clear hn hP hl0 hch
    have HA:Hid (Calls Tryz.prog 71 #[.pointer (some ⟨N,0,none⟩)] wr (vP (dJ en l2) wr)):=by obtain ⟨_,_,_,h⟩:=I.out.bH;exact kU h
    have hfld:∀(t:aC) wx,(Instr.field 130 (.agg #[.int .i64 t.kind,.string t.text,.int .i64 t.at_]) 1).run Tryz.prog wx=.ok (.string t.text) wx:=fun _ _=>by kernel_rfl
    go_upto_region 9 with (first
     | (go_at_call 71;(refine HA.out.mono ?_);rintro e w' ⟨rfl,aH⟩;obtain rfl:=aH.symm)
     | (go_at_call 101;(refine (rU 1 I.out.bH).mono ?_);intro e w3 h_;rcases hu:dZ 1 en l2 with e0|⟨t,r⟩;(obtain ⟨k_,rfl⟩:=h_.bad hu;have f_:dB N T en M (eX en s l) w (.panicked [{v:=bI e0,recovered:=false}]) _:=dB.thrown K.out k_ (by rw [jL.out,hu]);exact ⟨rfl,f_⟩);(obtain ⟨k_,Dv,r_⟩:=h_.ok hu;unfold EI at Dv;subst Dv;have HU:=ah hu;have hf1:=hfld t;have TB:Hid (oD r):=(by obtain ⟨_,_,_,h⟩:=r_;exact h.good);have I3:=ah (I.out.aQ k_ r_ (by have:=vG hu;omega));have K3:=ah (K.out.trans (fK k_));clear k_ r_ h_ hu)))
    clear hfld
    obtain ⟨y22,y23,g22,g23⟩:=I3.out.acr
    by_cases hS:t.text=bs [83]
    ·have q1:(t.text.toList==[83])=true:=Ed hS
     have fin:Hid (eX en s l=.error (2,dJ en l2)):=by unfold Hid;rw [jL.out,HU.out];dsimp only;rw [if_pos hS,if_pos (by simp)]
     clear hS jL
     go_upto_region 12 with fail
     cases he:s2.yes.toList.isEmpty with
     | true =>
      go_wp2_with (go_at_call 70;(refine (dD _ 2 (dJ en l2) _).mono ?_);rintro e w9 ⟨rfl,rfl⟩)
      exact ⟨rfl,dB.thrown K3.out (Kept.refl _ _) fin.out⟩
     | false =>
      go_wp2_with (go_at_call 70;(refine (dD _ 2 (dJ en l2) _).mono ?_);rintro e w9 ⟨rfl,rfl⟩)
      exact ⟨rfl,dB.thrown K3.out (Kept.refl _ _) fin.out⟩
    ·have q1:(t.text.toList==[83])=false:=AX hS
     by_cases hF:t.text=bs [70]
     ·have q3:(t.text.toList==[70])=true:=Ed hF
      by_cases hy:s2.bU=E0
      ·have q2:s2.bU.toList.isEmpty=true:=by rw [hy];exact jR
       have DJ:Hid (eX en s l=match dQ en r with | .error er=>.error er | .ok (n,r1)=>kS en 0 {s2 with bU:=n} r1):=by unfold Hid;rw [jL.out,HU.out];dsimp only;rw [if_neg hS,if_pos hF,if_neg (by rw [hy];simp)]
       clear hS hF jL hy
       cases hlb:dQ en r with
       | error e0 =>
        go_wp2_with (go_at_call 107;(refine (nC I3.out.bH).mono ?_);intro e w4 h_;obtain ⟨k_,rfl⟩:=h_.bad hlb;have K4:=ah k_;clear k_ h_)
        exact ⟨rfl,dB.thrown K3.out K4.out (by rw [DJ.out,hlb])⟩
       | ok y =>
        obtain ⟨n,r1⟩:=y
        have xF:=ah (uN TB.out hlb)
        have PD:Hid (eX en s l=kS en 0 {s2 with bU:=n} r1):=by unfold Hid;rw [DJ.out,hlb]
        go_wp2_with (go_at_call 107;(refine (nC I3.out.bH).mono ?_);intro e w4 h_;obtain ⟨k_,rfl,r_⟩:=h_.ok hlb;have I4:=ah (I3.out.aQ k_ r_ xF.out.2.2.1);have K4:=ah (K3.out.trans (fK k_));obtain ⟨v4,c4,f4⟩:=I4.out.slot 23 (by decide);clear k_ r_ h_)
        go_roundg 0
        case measure=>omega
        case rel=>exact ⟨2,{s2 with bU:=n},r1,by go_num,by unfold Hid;decide,I4.out.SN n (by have:=xF.out.2.2.2;omega),K4.out.trans (eU bP),PD⟩
      ·have q2:s2.bU.toList.isEmpty=false:=mM hy
       have fin:Hid (eX en s l=.error (2,dJ en l2)):=by unfold Hid;rw [jL.out,HU.out];dsimp only;rw [if_neg hS,if_pos hF,if_pos hy]
       clear hS hF jL hy
       go_wp2_with (go_at_call 70;(refine (dD _ 2 (dJ en l2) _).mono ?_);rintro e w9 ⟨rfl,rfl⟩)
       exact ⟨rfl,dB.thrown K3.out (Kept.refl _ _) fin.out⟩
     ·have q3:(t.text.toList==[70])=false:=AX hF
      have fin:Hid (eX en s l=.error (2,dJ en l2)):=by unfold Hid;rw [jL.out,HU.out];dsimp only;rw [if_neg hS,if_neg hF]
      clear hS hF jL
      go_wp2_with (go_at_call 70;(refine (dD _ 2 (dJ en l2) _).mono ?_);rintro e w9 ⟨rfl,rfl⟩)
      exact ⟨rfl,dB.thrown K3.out (Kept.refl _ _) fin.out⟩
   ·obtain rfl:gk=0:=by have:=hnf.out;omega
    have fin:Hid (eX en s l=.ok (s2,l2)):=hch
    clear hnf hch
    go_wp2_with fail
    (first|go_end0|(refine bodyPost_ret (results_none rfl _ _ _) rfl ?_))
    exact dB.done K.out I.out fin.out
end Go.Proofs.YtodebjhalipefaaGreatDoor

namespace Go.Proofs.YtodebjhalipefaaGreatDoor
set_option linter.all false
open Go.RowKit
set_option maxRecDepth 100000
set_option maxHeartbeats 16000000
theorem ER (p:aB) (v:Value) (S:Nat→Prop) (w:World) (hp:ou w S v p):Calls Tryz.prog 106 #[v] w (wG (decide (isTarget p)) w):=by
 obtain ⟨ka,cap,rfl,hz,hk⟩:=hp
 by_cases h:isTarget p
 ·have hb:Hid (decide (isTarget p)=true):=ak h
  have h':=h;unfold isTarget at h'
  rcases h' with h'|h'|h'
  all_goals
   rw [h']
   clear h
   go_enter Tryz.func106, Tryz.ntmps106
   go_wp2_with fail
   go_ret
   exact ⟨by rw [hb.out];try rfl,(Kept.refl _ _).alloc _⟩
 ·have hb:Hid (decide (isTarget p)=false):=au h
  have h':=h;unfold isTarget at h'
  have e1:(p.kind==3)=false:=by simp;omega
  have e2:(p.kind==4)=false:=by simp;omega
  have e3:(p.kind==5)=false:=by simp;omega
  clear h h'
  go_enter Tryz.func106, Tryz.ntmps106
  go_wp2_with fail
  go_ret
  exact ⟨by rw [hb.out];try rfl,(Kept.refl _ _).alloc _⟩
structure jZ (N T en M X:Nat) (s:aF) (p:aB) (ka:Option Addr) (kc:Nat) (l:List aC) (w:World):Prop where
 sb:dA N T en M s l w
 x:dR X (.int .i64 p.kind) (.string p.text) (.int .i64 p.n) (.string p.name) (.slice ka p.kids.length kc) w
 kids:∃S,aN w S ka p.kids∧∀b,S b→M<b∧b<w.heap.size
 z:p.text.size<1000000000∧p.name.size<1000000000∧p.kids.length<1000000000
 sz:sizeT p≤100000
 lt:M<X
theorem jZ.aQ {N T en M X:Nat} {s:aF} {p:aB} {ka:Option Addr} {kc:Nat} {l l2:List aC} {w w2:World} (h:jZ N T en M X s p ka kc l w) (hk:Kept (· = N) w w2) (hr:bV N T en l2 0 w2) (hl:l2.length≤l.length):jZ N T en M X s p ka kc l2 w2:=by
 obtain ⟨h1,h2,⟨S,h3,h4⟩,h5,h6,h7⟩:=h
 have:=h1.lt
 exact ⟨h1.aQ hk hr hl,h2.kept hk (by omega),⟨S,h3.kept hk (fun b hb=>⟨(h4 b hb).2,by have:=h4 b hb;omega⟩),fun b hb=>⟨(h4 b hb).1,Nat.lt_of_lt_of_le (h4 b hb).2 hk.size⟩⟩,h5,h6,h7⟩
theorem jZ.quiet {N T en M X:Nat} {s:aF} {p:aB} {ka:Option Addr} {kc:Nat} {l:List aC} {w w2:World} (h:jZ N T en M X s p ka kc l w) (hk:Kept aA w w2):jZ N T en M X s p ka kc l w2 :=
 h.aQ (hk.more fun _ h=>h.elim) (h.sb.bH.kept hk (fun h=>h) (fun h=>h)) (Nat.le_refl _)
theorem jZ.upd {N T en M X:Nat} {s s2:aF} {p:aB} {ka:Option Addr} {kc:Nat} {l:List aC} {w w2:World} (h:jZ N T en M X s p ka kc l w) (hs:dA N T en M s2 l w2) (hk:Kept (· = M) w w2):jZ N T en M X s2 p ka kc l w2:=by
 obtain ⟨h1,h2,⟨S,h3,h4⟩,h5,h6,h7⟩:=h
 exact ⟨hs,h2.kept hk (by omega),⟨S,h3.kept hk (fun b hb=>⟨(h4 b hb).2,by have:=h4 b hb;omega⟩),fun b hb=>⟨(h4 b hb).1,Nat.lt_of_lt_of_le (h4 b hb).2 hk.size⟩⟩,h5,h6,h7⟩
def Di (w:World) (M i:Nat) (p:aB) (ka:Option Addr) (kc:Nat):World:=(((((w.setCell ⟨M,i,none⟩ (.int .i64 p.kind)).setCell ⟨M,i+1,none⟩ (.string p.text)).setCell ⟨M,i+2,none⟩ (.int .i64 p.n)).setCell ⟨M,i+3,none⟩ (.string p.name)).setCell ⟨M,i+4,none⟩ (.slice ka p.kids.length kc))
theorem gV (w:World) (M i:Nat) (p:aB) (ka:Option Addr) (kc:Nat):Kept (· = M) w (Di w M i p ka kc):=((((bP).trans bP).trans bP).trans bP).trans bP
theorem jZ.setKind {N T en M X:Nat} {s:aF} {p:aB} {ka:Option Addr} {kc:Nat} {l:List aC} {w:World} (h:jZ N T en M X s p ka kc l w) (k:Int):jZ N T en M X {s with kind:=k} p ka kc l (w.setCell ⟨M,1,none⟩ (.int .i64 k)):=h.upd (h.sb.setKind k) bP
theorem jZ.setValue {N T en M X:Nat} {s:aF} {p:aB} {ka:Option Addr} {kc:Nat} {l:List aC} {w:World} (h:jZ N T en M X s p ka kc l w):jZ N T en M X {s with value:=p} p ka kc l (Di w M 7 p ka kc):=by
 obtain ⟨S,h3,h4⟩:=h.kids
 exact h.upd (h.sb.setValue h3 h4 h.z (by have:=h.sz;omega)) (gV w M 7 p ka kc)
theorem jZ.rW {N T en M X:Nat} {s:aF} {p:aB} {ka:Option Addr} {kc:Nat} {l:List aC} {w:World} (h:jZ N T en M X s p ka kc l w):jZ N T en M X {s with target:=p} p ka kc l (Di w M 2 p ka kc):=by
 obtain ⟨S,h3,h4⟩:=h.kids
 exact h.upd (h.sb.rW h3 h4 h.z (by have:=h.sz;omega)) (gV w M 2 p ka kc)
theorem jZ.draw {N T en M X:Nat} {s:aF} {p:aB} {ka:Option Addr} {kc:Nat} {l:List aC} {w:World} (h:jZ N T en M X s p ka kc l w):jZ N T en M X s p ka kc l w.drew:=h.quiet (Kept.refl aA w).drew
theorem PE {en:Nat} {l r:List aC} {p:aB} (h:qx en l=.ok (p,r)):sizeT p≤200000:=by
 unfold qx at h
 split at h<;>cases h
theorem kV:([68,69,70,73,78,69]:List UInt8)=rX.toList:=by rw [ByteArray.toList_eq];rfl
theorem AY:([58,61]:List UInt8)=AZ.toList:=by rw [ByteArray.toList_eq];rfl
theorem PG {N T en M:Nat} {lb:aj} {l:List aC} {w:World} (h:dA N T en M (st1 lb) l w) (hd:dh l=true):Calls Tryz.prog 67 #[.pointer (some ⟨N,0,none⟩),.pointer (some ⟨M,0,none⟩)] w (dB N T en M (bodyT en (st1 lb) l) w):=by
 have I0:=ah h
 have K0:Hid (Kept (fun b=>b=N∨b=M) w w):=Kept.refl _ _
 have er:Hid (bodyT en (st1 lb) l=dY en (st1 lb) l.tail):=by unfold Hid bodyT;rw [if_pos hd]
 have HD:=ah hd
 clear h hd
 go_enter Tryz.func67, Tryz.ntmps67
 go_upto_region 0 with fail
 obtain ⟨nq,aq,cq,hq⟩:=I0.out.bH
 go_cut [50] (fun c wx=>c=.bool (dh l)∧w=wx)
 case first =>
  obtain ⟨c0,c1,cd,cf⟩:=hq.c0
  have hn:=hq.num
  rcases l with _|⟨t,l1⟩
  ·have z:decide ((0:Int)<(nq:Int))=false:=by rw [hn];rfl
   have z':decide (0<nq)=false:=by rw [hn];rfl
   have za:decide ((1:Int)<(nq:Int))=false:=by rw [hn];rfl
   have yO:decide (1<nq)=false:=by rw [hn];rfl
   clear hn hq cf
   go_wp2_with fail
   go_meet
   exact ⟨rfl,rfl⟩
  rw [List.length_cons] at hn
  have z:decide ((0:Int)<(nq:Int))=true:=ak (by omega)
  have z':decide (0<nq)=true:=ak (by omega)
  have h0:0<nq:=by omega
  have h1:(0:Int)<(nq:Int):=by omega
  obtain ⟨o,rfl,t0,t1,t2⟩:=hq.head
  rcases l1 with _|⟨u,l3⟩
  ·have za:decide ((1:Int)<(nq:Int))=false:=by rw [hn];rfl
   have yO:decide (1<nq)=false:=by rw [hn];rfl
   by_cases hk1:t.kind=1
   ·have y1:(t.kind==1)=true:=by simpa using hk1
    by_cases hx:t.text=rX
    ·have y2:(t.text.toList==[68,69,70,73,78,69])=true:=by rw [kV,bW];exact ak hx
     have fin:Hid (dh (t::[])=false):=rfl
     clear hn hq cf hk1 hx
     go_wp2_with fail
     go_meet
     exact ⟨by rw [fin.out],rfl⟩
    ·have y2:(t.text.toList==[68,69,70,73,78,69])=false:=by rw [kV,bW];exact au hx
     have fin:Hid (dh (t::[])=false):=rfl
     clear hn hq cf hk1 hx
     go_wp2_with fail
     go_meet
     exact ⟨by rw [fin.out],rfl⟩
   ·have y1:(t.kind==1)=false:=by simpa using hk1
    have fin:Hid (dh (t::[])=false):=rfl
    clear hn hq cf hk1
    go_wp2_with fail
    go_meet
    exact ⟨by rw [fin.out],rfl⟩
  ·rw [List.length_cons] at hn
   have za:decide ((1:Int)<(nq:Int))=true:=ak (by omega)
   have yO:decide (1<nq)=true:=ak (by omega)
   have h3:1<nq:=by omega
   have h4:(1:Int)<(nq:Int):=by omega
   obtain ⟨u0,u1⟩:=hq.second
   by_cases hk1:t.kind=1
   ·have y1:(t.kind==1)=true:=by simpa using hk1
    by_cases hx:t.text=rX
    ·have y2:(t.text.toList==[68,69,70,73,78,69])=true:=by rw [kV,bW];exact ak hx
     by_cases hk2:u.kind=1
     ·have y3:(u.kind==1)=true:=by simpa using hk2
      have fin:Hid (dh (t::u::l3)=true):=ak ⟨hk1,hx,hk2⟩
      clear hn hq cf hk1 hx hk2
      go_wp2_with fail
      go_meet
      exact ⟨by rw [fin.out],rfl⟩
     ·have y3:(u.kind==1)=false:=by simpa using hk2
      have fin:Hid (dh (t::u::l3)=false):=au (fun h=>hk2 h.2.2)
      clear hn hq cf hk1 hx hk2
      go_wp2_with fail
      go_meet
      exact ⟨by rw [fin.out],rfl⟩
    ·have y2:(t.text.toList==[68,69,70,73,78,69])=false:=by rw [kV,bW];exact au hx
     have fin:Hid (dh (t::u::l3)=false):=au (fun h=>hx h.2.1)
     clear hn hq cf hk1 hx
     go_wp2_with fail
     go_meet
     exact ⟨by rw [fin.out],rfl⟩
   ·have y1:(t.kind==1)=false:=by simpa using hk1
    have fin:Hid (dh (t::u::l3)=false):=au (fun h=>hk1 h.1)
    clear hn hq cf hk1
    go_wp2_with fail
    go_meet
    exact ⟨by rw [fin.out],rfl⟩
 case rest =>
  obtain ⟨rfl,rfl⟩:=hcut
  clear hq
  rw [HD.out]
  obtain ⟨t,l1,rfl⟩:∃t l1,l=t::l1:=by cases l with|nil=>cases HD.out|cons t l1=>exact ⟨t,l1,rfl⟩
  obtain ⟨nq,aq,cq,hq⟩:=I0.out.bH
  obtain ⟨c0,c1,cd,cf⟩:=hq.c0
  obtain ⟨n',a',c',hn',hsl,hR⟩:=hq.rest
  have hs1:=hsl w
  have Ro:=cf 0
  have kN:Kept (· = N) w (w.setCell ⟨N,0,none⟩ (.slice a' n' c')):=(Kept.refl (· = N) w).setCell (p:=⟨N,0,none⟩) (.inl rfl) _
  have I1:=ah (I0.out.aQ kN ⟨_,_,_,hR⟩ (by simp))
  have K1:Hid (Kept (fun b=>b=N∨b=M) w (w.setCell ⟨N,0,none⟩ (.slice a' n' c'))):=fK kN
  clear hq hsl hR cf kN
  go_upto_region 2 with fail
  obtain ⟨w1,hw1⟩:∃w1,w1=w.setCell ⟨N,0,none⟩ (.slice a' n' c'):=⟨_,rfl⟩
  rw [←hw1] at I1 K1
  rw [←hw1]
  clear hw1 hs1 c0 c1 cd Ro
  cases hu:dY en (st1 lb) l1 with
  | error e0 =>
   go_wp2_with (go_at_call 102;(refine (EO I1.out).mono ?_);intro e w4 h_;obtain ⟨k_,rfl⟩:=h_.bad hu;have K4:=ah (K1.out.trans k_);clear k_ h_)
   exact ⟨rfl,dB.thrown K4.out (Kept.refl _ _) (by rw [er.out];exact hu)⟩
  | ok y =>
   obtain ⟨s2,r⟩:=y
   go_wp2_with (go_at_call 102;(refine (EO I1.out).mono ?_);intro e w4 h_;obtain ⟨k_,rfl,s_⟩:=h_.ok hu;have K4:=ah (K1.out.trans k_);have I4:=ah s_;clear k_ h_ s_)
   (first|go_end0|(refine bodyPost_ret (results_none rfl _ _ _) rfl ?_))
   exact dB.done K4.out I4.out (by rw [er.out];exact hu)
theorem Vu {N T en M:Nat} {lb:aj} {l:List aC} {w:World} (h:dA N T en M (st1 lb) l w) (hd:dh l=false) (hr:jI l=true):Calls Tryz.prog 67 #[.pointer (some ⟨N,0,none⟩),.pointer (some ⟨M,0,none⟩)] w (dB N T en M (bodyT en (st1 lb) l) w):=by
 have I0:=ah h
 have K0:Hid (Kept (fun b=>b=N∨b=M) w w):=Kept.refl _ _
 have er:Hid (bodyT en (st1 lb) l=Ba en (st1 lb) l):=by unfold Hid bodyT;rw [hd,hr];rfl
 have HD:=ah hd;have HR:=ah hr
 clear h hd hr
 go_enter Tryz.func67, Tryz.ntmps67
 go_upto_region 0 with fail
 obtain ⟨nq,aq,cq,hq⟩:=I0.out.bH
 go_cut [50] (fun c wx=>c=.bool (dh l)∧w=wx)
 case first =>
  obtain ⟨c0,c1,cd,cf⟩:=hq.c0
  have hn:=hq.num
  rcases l with _|⟨t,l1⟩
  ·have z:decide ((0:Int)<(nq:Int))=false:=by rw [hn];rfl
   have z':decide (0<nq)=false:=by rw [hn];rfl
   have za:decide ((1:Int)<(nq:Int))=false:=by rw [hn];rfl
   have yO:decide (1<nq)=false:=by rw [hn];rfl
   clear hn hq cf
   go_wp2_with fail
   go_meet
   exact ⟨rfl,rfl⟩
  rw [List.length_cons] at hn
  have z:decide ((0:Int)<(nq:Int))=true:=ak (by omega)
  have z':decide (0<nq)=true:=ak (by omega)
  have h0:0<nq:=by omega
  have h1:(0:Int)<(nq:Int):=by omega
  obtain ⟨o,rfl,t0,t1,t2⟩:=hq.head
  rcases l1 with _|⟨u,l3⟩
  ·have za:decide ((1:Int)<(nq:Int))=false:=by rw [hn];rfl
   have yO:decide (1<nq)=false:=by rw [hn];rfl
   by_cases hk1:t.kind=1
   ·have y1:(t.kind==1)=true:=by simpa using hk1
    by_cases hx:t.text=rX
    ·have y2:(t.text.toList==[68,69,70,73,78,69])=true:=by rw [kV,bW];exact ak hx
     have fin:Hid (dh (t::[])=false):=rfl
     clear hn hq cf hk1 hx
     go_wp2_with fail
     go_meet
     exact ⟨by rw [fin.out],rfl⟩
    ·have y2:(t.text.toList==[68,69,70,73,78,69])=false:=by rw [kV,bW];exact au hx
     have fin:Hid (dh (t::[])=false):=rfl
     clear hn hq cf hk1 hx
     go_wp2_with fail
     go_meet
     exact ⟨by rw [fin.out],rfl⟩
   ·have y1:(t.kind==1)=false:=by simpa using hk1
    have fin:Hid (dh (t::[])=false):=rfl
    clear hn hq cf hk1
    go_wp2_with fail
    go_meet
    exact ⟨by rw [fin.out],rfl⟩
  ·rw [List.length_cons] at hn
   have za:decide ((1:Int)<(nq:Int))=true:=ak (by omega)
   have yO:decide (1<nq)=true:=ak (by omega)
   have h3:1<nq:=by omega
   have h4:(1:Int)<(nq:Int):=by omega
   obtain ⟨u0,u1⟩:=hq.second
   by_cases hk1:t.kind=1
   ·have y1:(t.kind==1)=true:=by simpa using hk1
    by_cases hx:t.text=rX
    ·have y2:(t.text.toList==[68,69,70,73,78,69])=true:=by rw [kV,bW];exact ak hx
     by_cases hk2:u.kind=1
     ·have y3:(u.kind==1)=true:=by simpa using hk2
      have fin:Hid (dh (t::u::l3)=true):=ak ⟨hk1,hx,hk2⟩
      clear hn hq cf hk1 hx hk2
      go_wp2_with fail
      go_meet
      exact ⟨by rw [fin.out],rfl⟩
     ·have y3:(u.kind==1)=false:=by simpa using hk2
      have fin:Hid (dh (t::u::l3)=false):=au (fun h=>hk2 h.2.2)
      clear hn hq cf hk1 hx hk2
      go_wp2_with fail
      go_meet
      exact ⟨by rw [fin.out],rfl⟩
    ·have y2:(t.text.toList==[68,69,70,73,78,69])=false:=by rw [kV,bW];exact au hx
     have fin:Hid (dh (t::u::l3)=false):=au (fun h=>hx h.2.1)
     clear hn hq cf hk1 hx
     go_wp2_with fail
     go_meet
     exact ⟨by rw [fin.out],rfl⟩
   ·have y1:(t.kind==1)=false:=by simpa using hk1
    have fin:Hid (dh (t::u::l3)=false):=au (fun h=>hk1 h.1)
    clear hn hq cf hk1
    go_wp2_with fail
    go_meet
    exact ⟨by rw [fin.out],rfl⟩
 case rest =>
  obtain ⟨rfl,rfl⟩:=hcut
  clear hq
  rw [HD.out]
  go_upto_region 3 with fail
  obtain ⟨nq,aq,cq,hq⟩:=I0.out.bH
  go_cut [97] (fun c wx=>c=.bool (jI l)∧w=wx)
  case first =>
   obtain ⟨c0,c1,cd,cf⟩:=hq.c0
   have hn:=hq.num
   rcases l with _|⟨t,l1⟩
   ·have z:decide ((0:Int)<(nq:Int))=false:=by rw [hn];rfl
    have z':decide (0<nq)=false:=by rw [hn];rfl
    have za:decide ((1:Int)<(nq:Int))=false:=by rw [hn];rfl
    have yO:decide (1<nq)=false:=by rw [hn];rfl
    clear hn hq cf
    go_wp2_with fail
    go_meet
    exact ⟨rfl,rfl⟩
   rw [List.length_cons] at hn
   have z:decide ((0:Int)<(nq:Int))=true:=ak (by omega)
   have z':decide (0<nq)=true:=ak (by omega)
   have h0:0<nq:=by omega
   have h1:(0:Int)<(nq:Int):=by omega
   obtain ⟨o,rfl,t0,t1,t2⟩:=hq.head
   rcases l1 with _|⟨u,l3⟩
   ·have za:decide ((1:Int)<(nq:Int))=false:=by rw [hn];rfl
    have yO:decide (1<nq)=false:=by rw [hn];rfl
    have fin:Hid (jI [t]=false):=rfl
    clear hn hq cf
    go_wp2_with fail
    go_meet
    exact ⟨by rw [fin.out],rfl⟩
   ·rw [List.length_cons] at hn
    have za:decide ((1:Int)<(nq:Int))=true:=ak (by omega)
    have yO:decide (1<nq)=true:=ak (by omega)
    have h3:1<nq:=by omega
    have h4:(1:Int)<(nq:Int):=by omega
    obtain ⟨u0,u1⟩:=hq.second
    by_cases hk1:t.kind=1
    ·have y1:(t.kind==1)=true:=by simpa using hk1
     by_cases hk2:u.kind=5
     ·have y2:(u.kind==5)=true:=by simpa using hk2
      by_cases hx:u.text=AZ
      ·have y3:(u.text.toList==[58,61])=true:=by rw [AY,bW];exact ak hx
       have fin:Hid (jI (t::u::l3)=true):=ak ⟨hk1,hk2,hx⟩
       clear hn hq cf hk1 hk2 hx
       go_wp2_with fail
       go_meet
       exact ⟨by rw [fin.out],rfl⟩
      ·have y3:(u.text.toList==[58,61])=false:=by rw [AY,bW];exact au hx
       have fin:Hid (jI (t::u::l3)=false):=au (fun h=>hx h.2.2)
       clear hn hq cf hk1 hk2 hx
       go_wp2_with fail
       go_meet
       exact ⟨by rw [fin.out],rfl⟩
     ·have y2:(u.kind==5)=false:=by simpa using hk2
      have fin:Hid (jI (t::u::l3)=false):=au (fun h=>hk2 h.2.1)
      clear hn hq cf hk1 hk2
      go_wp2_with fail
      go_meet
      exact ⟨by rw [fin.out],rfl⟩
    ·have y1:(t.kind==1)=false:=by simpa using hk1
     have fin:Hid (jI (t::u::l3)=false):=au (fun h=>hk1 h.1)
     clear hn hq cf hk1
     go_wp2_with fail
     go_meet
     exact ⟨by rw [fin.out],rfl⟩
  case rest =>
   obtain ⟨rfl,rfl⟩:=hcut
   clear hq
   rw [HR.out]
   obtain ⟨v1,c1,f1⟩:=I0.out.slot 1 (by decide)
   go_upto_region 5 with fail
   have I1:=ah (I0.out.setKind 6)
   have K1:Hid (Kept (fun b=>b=N∨b=M) w (w.setCell ⟨M,1,none⟩ (.int .i64 6))):=eU bP
   obtain ⟨w1,hw1⟩:∃w1,w1=w.setCell ⟨M,1,none⟩ (.int .i64 6):=⟨_,rfl⟩
   rw [←hw1] at I1 K1
   rw [←hw1]
   clear hw1 c1 f1
   go_upto_region 6 with (go_at_call 65;(refine (fB I1.out.bH).mono ?_);intro e w2 h_;rcases hu:dL en l with e0|⟨nm,r1⟩;(obtain ⟨k_,rfl⟩:=h_.bad hu;have f_:dB N T en M (bodyT en (st1 lb) l) w (.panicked [{v:=bI e0,recovered:=false}]) _:=dB.thrown K1.out k_ (by rw [er.out];unfold Ba;simp only [hu]);exact ⟨rfl,f_⟩);(obtain ⟨k_,rfl,r_⟩:=h_.ok hu;have lN:=ah hu;have I2:=ah (I1.out.aQ k_ r_ (by have:=jQ hu;omega));have K2:=ah (K1.out.trans (fK k_));obtain ⟨v17,c17,f17⟩:=I2.out.slot 17 (by decide);clear k_ r_ h_ hu))
   have I3:=ah (I2.out.setName nm (by have:=iF lN.out;omega))
   have K3:=ah (K2.out.trans (eU (bP (w:=w2) (M:=M) (i:=17) (v:=.string nm))))
   obtain ⟨w3,hw3⟩:∃w3,w3=w2.setCell ⟨M,17,none⟩ (.string nm):=⟨_,rfl⟩
   rw [←hw3] at I3 K3
   rw [←hw3]
   clear hw3 c17 f17
   go_upto_region 7 with (go_at_call 103;(refine (jd AZ I3.out.bH).mono ?_);intro e w4 h_;rcases hu:dW AZ en r1 with e0|r2;(obtain ⟨k_,rfl⟩:=h_.bad hu;have f_:dB N T en M (bodyT en (st1 lb) l) w (.panicked [{v:=bI e0,recovered:=false}]) _:=dB.thrown K3.out k_ (by rw [er.out];unfold Ba;simp only [lN.out,hu]);exact ⟨rfl,f_⟩);(obtain ⟨k_,rfl,r_⟩:=h_.ok hu;have yN:=ah hu;have I4:=ah (I3.out.aQ k_ r_ (by have:=mJ hu;omega));have K4:=ah (K3.out.trans (fK k_));clear k_ r_ h_ hu))
   go_wp2_with (go_at_call 104;(refine (DK I4.out.bH).mono ?_);intro e w5 h_;rcases hu:qx en r2 with e0|⟨q,r3⟩;(obtain ⟨k_,rfl⟩:=h_.bad hu;have f_:dB N T en M (bodyT en (st1 lb) l) w (.panicked [{v:=bI e0,recovered:=false}]) _:=dB.thrown K4.out k_ (by rw [er.out];unfold Ba;simp only [lN.out,yN.out,hu]);exact ⟨rfl,f_⟩);(obtain ⟨k_,r_,S,ka,kc,rfl,iM,iO,fV⟩:=h_.ok hu;have BF:=ah hu;have I5:=ah (I4.out.aQ k_ r_ (by have:=Pm hu;omega));have K5:=ah (K4.out.trans (fK k_));have I6:=ah (I5.out.YM (kc:=kc) fV (fun b hb=>by have:=iM b hb;have:=I4.out.SQ;omega) iO (by have:=PE hu;omega));have K6:=ah (K5.out.trans (eU (gV w5 M 12 q ka kc)));obtain ⟨v12,c12,f12⟩:=I5.out.slot 12 (by decide);obtain ⟨v13,c13,f13⟩:=I5.out.slot 13 (by decide);obtain ⟨v14,c14,f14⟩:=I5.out.slot 14 (by decide);obtain ⟨v15,c15,f15⟩:=I5.out.slot 15 (by decide);obtain ⟨v16,c16,f16⟩:=I5.out.slot 16 (by decide);clear k_ r_ iM iO fV h_ hu))
   (first|go_end0|(refine bodyPost_ret (results_none rfl _ _ _) rfl ?_))
   exact dB.done K6.out I6.out (by rw [er.out];unfold Ba;simp only [lN.out,yN.out,BF.out];try rfl)
end Go.Proofs.YtodebjhalipefaaGreatDoor
