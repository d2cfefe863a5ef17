/-  -/
import Derived.Test.YtgoijmpahffnhaaGreatDoorLq10
import Derived.LaidEql
namespace Go.Proofs.YtgoijmpahffnhaaGreatDoor
set_option linter.all false
open Go.RowKit
set_option maxRecDepth 100000
set_option maxHeartbeats 16000000
theorem ade (d M i j:Nat) (w:World):(Op.equalIn (d+1) 162 (.pointer (some ⟨M,i,none⟩)) (.pointer (some ⟨M,j,none⟩))).run Tryz.prog w=.ok (decide (i=j)) w:=by
 have hsz:(sizeOf 9).run Tryz.prog w=.ok 1 w:=by kernel_rfl
 by_cases h:i=j
 ·subst h;simp [Op.equalIn,run_underlying Tryz.underlying162,hsz,sameAddr]
 ·simp [Op.equalIn,run_underlying Tryz.underlying162,hsz,sameAddr,h]
theorem adY (M i j:Nat) (w:World):(binOp .eql 162 (.pointer (some ⟨M,i,none⟩)) (.pointer (some ⟨M,j,none⟩))).run Tryz.prog w=.ok (.bool (decide (i=j))) w:=by
 simp only [binOp]
 simp [Op.equal,Op.maxDepth,ade 9999]
theorem Xq (M:Nat) (w:World):(binOp .eql 162 (.pointer (some ⟨M,22,none⟩)) (.pointer (some ⟨M,22,none⟩))).run Tryz.prog w=.ok (.bool true) w:=adY M 22 22 w
theorem aas (M:Nat) (w:World):(binOp .eql 162 (.pointer (some ⟨M,23,none⟩)) (.pointer (some ⟨M,22,none⟩))).run Tryz.prog w=.ok (.bool false) w:=adY M 23 22 w
def lD (en:Nat):Nat→aF→List aC→bf aF
 | 0,s,l=>.ok (s,l)
 | f+1,s,l =>
  if f=0∧l=[] then .ok (s,l)
  else match eF 1 en l with
   | .error er=>.error er
   | .ok (t,r) =>
    if t.text=bs [83] then
     if s.yes≠E0∨f=0 then .error (2,dK en l)
     else match dR en r with
      | .error er=>.error er
      | .ok (n,r1)=>lD en f {s with yes:=n} r1
    else if t.text=bs [70] then
     if s.bW≠E0 then .error (2,dK en l)
     else match dR en r with
      | .error er=>.error er
      | .ok (n,r1)=>lD en f {s with bW:=n} r1
    else .error (2,dK en l)
theorem aat {k:Int} {en:Nat} {l:List aC} {er:Er} (h:eF k en l=.error er):er=(2,dK en l):=by
 cases l with
 | nil=>simp only [eF,Except.error.injEq] at h;exact h.symm
 | cons t r =>
  simp only [eF] at h
  split at h
  ·cases h
  ·simp only [Except.error.injEq] at h;exact h.symm
theorem Mc {k:Int} {en:Nat} {l r:List aC} {t:aC} (h:eF k en l=.ok (t,r)):l=t::r∧t.kind=k:=by
 cases l with
 | nil=>cases h
 | cons u v =>
  simp only [eF] at h
  split at h
  ·next hk=>simp only [Except.ok.injEq,Prod.mk.injEq] at h;obtain ⟨rfl,rfl⟩:=h;exact ⟨rfl,hk⟩
  ·cases h
theorem IZ {x:aj} {en:Nat} {l r:List aC} (h:dX x en l=.ok r):r=l.tail:=by
 unfold dX at h
 split at h
 ·simp only [Except.ok.injEq] at h;exact h.symm
 ·cases h
theorem oW.tail {l:List aC} (h:oW l):oW l.tail:=by
 cases l with
 | nil=>exact h
 | cons t r=>exact fun u hu=>h u (List.mem_cons_of_mem _ hu)
theorem afh {en:Nat} {l r:List aC} {x:aj} (hb:oW l) (h:dN en l=.ok (x,r)):x≠E0∧r=l.tail:=by
 unfold dN at h
 split at h
 ·cases h
 ·next t r1 ht =>
  obtain ⟨rfl,hk⟩:=Mc ht
  split at h
  ·cases h
  ·simp only [Except.ok.injEq,Prod.mk.injEq] at h;obtain ⟨rfl,rfl⟩:=h
   exact ⟨fun e=>(hb t (List.mem_cons_self ..)).2.2.2.2 hk (by rw [e];rfl),rfl⟩
theorem vM {en:Nat} {l r:List aC} {x:aj} (hb:oW l) (h:dR en l=.ok (x,r)):x≠E0∧oW r∧r.length≤l.length∧x.size≤16:=by
 unfold dR at h
 split at h
 ·cases h
 ·next r1 h1 =>
  split at h
  ·cases h
  ·next n r2 h2 =>
   split at h
   ·cases h
   ·next r3 h3 =>
    simp only [Except.ok.injEq,Prod.mk.injEq] at h;obtain ⟨rfl,rfl⟩:=h
    have e1:=IZ h1;have e3:=IZ h3
    have b1:oW r1:=by rw [e1];exact hb.tail
    obtain ⟨hne,e2⟩:=afh b1 h2
    have b2:oW r2:=by rw [e2];exact b1.tail
    have l1:=nP h1;have l2:=jZ h2;have l3:=nP h3
    exact ⟨hne,by rw [e3];exact b2.tail,by omega,iG h2⟩
theorem afi {en:Nat} {s:aF} {l:List aC} (hb:oW l) (hy:s.yes=E0) (hn:s.bW=E0) (hs:aG (bs [40]) l=false):fB en s l=lD en 2 s l:=by
 have e83:bs [70]≠bs [83]:=by decide
 unfold fB lD
 rw [hs]
 simp only [if_false,Bool.false_eq_true,show ¬((1:Nat)=0∧l=[]) from fun h=>by simp at h]
 cases ht:eF 1 en l with
 | error er=>rfl
 | ok x =>
  obtain ⟨t,r⟩:=x
  obtain ⟨rfl,hk⟩:=Mc ht
  have hbr:oW r:=hb.tail
  dsimp only
  by_cases h1:t.text=bs [83]
  ·rw [if_pos h1,if_pos h1,if_neg (by rw [hy];simp)]
   cases hl:dR en r with
   | error er=>rfl
   | ok y =>
    obtain ⟨n,r1⟩:=y
    obtain ⟨hne,hb1,_,_⟩:=vM hbr hl
    dsimp only
    unfold lD
    by_cases h0:r1=[]
    ·rw [if_pos h0,if_pos ⟨rfl,h0⟩]
    ·rw [if_neg h0,if_neg (fun h=>h0 h.2)]
     cases ht2:eF 1 en r1 with
     | error er=>rfl
     | ok z =>
      obtain ⟨u,r2⟩:=z
      dsimp only
      by_cases h2:u.text=bs [70]
      ·rw [if_pos h2,if_neg (by rw [h2];exact e83),if_pos h2,if_neg (by rw [hn];simp)]
       cases dR en r2 with
       | error er=>rfl
       | ok y2=>rfl
      ·rw [if_neg h2]
       by_cases h3:u.text=bs [83]
       ·rw [if_pos h3,if_pos (.inr rfl)]
       ·rw [if_neg h3,if_neg h2]
  ·rw [if_neg h1,if_neg h1]
   by_cases h2:t.text=bs [70]
   ·rw [if_pos h2,if_pos h2,if_neg (by rw [hn];simp)]
    cases hl:dR en r with
    | error er=>rfl
    | ok y =>
     obtain ⟨n,r1⟩:=y
     obtain ⟨hne,hb1,_,_⟩:=vM hbr hl
     dsimp only
     unfold lD
     by_cases h0:r1=[]
     ·rw [if_pos h0,if_pos ⟨rfl,h0⟩]
     ·rw [if_neg h0,if_neg (fun h=>h0 h.2)]
      cases ht2:eF 1 en r1 with
      | error er=>rw [aat ht2]
      | ok z =>
       obtain ⟨u,r2⟩:=z
       dsimp only
       by_cases h3:u.text=bs [83]
       ·rw [if_pos h3,if_pos (.inr rfl)]
       ·rw [if_neg h3]
        by_cases h4:u.text=bs [70]
        ·rw [if_pos h4,if_pos hne]
        ·rw [if_neg h4]
   ·rw [if_neg h2,if_neg h2]
theorem dB.adZ {N T en M:Nat} {s:aF} {l:List aC} {w:World} (h:dB N T en M s l w):w.cell? ⟨M,22,none⟩=some (.string s.yes)∧w.cell? ⟨M,23,none⟩=some (.string s.bW)∧w.frozen? ⟨M,22,none⟩=false∧w.frozen? ⟨M,23,none⟩=false:=by
 obtain ⟨a,S,hB,_⟩:=h.st
 exact ⟨by unfold bV at hB;rw [cell_of_row w M _ _ _ _ hB];rfl,by unfold bV at hB;rw [cell_of_row w M _ _ _ _ hB];rfl,hB.free 22,hB.free 23⟩
theorem ad1 (x:UInt8):([x]:List UInt8)=(⟨#[x]⟩:aj).toList:=by rw [ByteArray.toList_eq]
theorem ET {x:aj} {c:UInt8} (h:x=bs [c]):(x.toList==[c])=true:=by rw [ad1,cu];exact ak h
theorem Cc {x:aj} {c:UInt8} (h:x≠bs [c]):(x.toList==[c])=false:=by rw [ad1,cu];exact au h
theorem nS {x:aj} (h:x≠E0):x.toList.isEmpty=false:=by
 cases hx:x.toList.isEmpty with
 | false=>rfl
 | true =>
  exfalso;apply h
  rw [List.isEmpty_iff,ByteArray.toList_eq] at hx
  apply ByteArray.ext
  exact Array.toList_inj.1 hx
theorem ku:(E0:aj).toList.isEmpty=true:=by rw [ByteArray.toList_eq];rfl
theorem Xr {N T en M:Nat} {s:aF} {l:List aC} {w:World} (h:dB N T en M s l w) (hy0:s.yes=E0) (hn0:s.bW=E0):Calls Tryz.prog 54 #[.pointer (some ⟨N,0,none⟩),.pointer (some ⟨M,0,none⟩)] w (dD N T en M (fB en s l) w):=by
 have HS:Hid (Calls Tryz.prog 51 #[.pointer (some ⟨N,0,none⟩),.string ⟨#[40]⟩] w (Nc (aG ⟨#[40]⟩ l) w)):=by obtain ⟨_,_,_,h⟩:=h.bI;exact zl _ h
 have HB:Hid (oW l):=by obtain ⟨_,_,_,h⟩:=h.bI;exact h.good
 have I0:=ah h
 have K0:Hid (Kept (fun b=>b=N∨b=M) w w):=Kept.refl _ _
 cases hs:aG ⟨#[40]⟩ l with
 | true =>
  rw [hs] at HS
  have er:Hid (fB en s l=match dR en l with | .error er=>.error er | .ok (n,r)=>.ok ({s with always:=n},r)):=by unfold Hid fB;rw [show aG (bs [40]) l=true from hs];rfl
  clear h hs hy0 hn0
  go_enter Tryz.func54, Tryz.ntmps54
  go_wp2_with (first
   | (go_at_call 51;(refine HS.out.mono ?_);rintro e w' ⟨rfl,aI⟩;obtain rfl:=aI.symm)
   | (go_at_call 92;(refine (oD I0.out.bI).mono ?_);intro e w4 h_;rcases hu:dR en l with e0|⟨n,r⟩;(obtain ⟨k_,rfl⟩:=h_.bad hu;have f_:dD N T en M (fB en s l) w (.panicked [{v:=bK e0,recovered:=false}]) _:=dD.thrown K0.out k_ (by rw [er.out,hu]);exact ⟨rfl,f_⟩);(obtain ⟨k_,rfl,r_⟩:=h_.ok hu;have HU:=ah hu;have yF:=ah (vM HB.out hu);have I4:=ah (I0.out.aS k_ r_ yF.out.2.2.1);have K4:=ah (K0.out.trans (fO k_));obtain ⟨v4,c4,f4⟩:=I4.out.slot 21 (by decide);clear k_ r_ h_ hu)))
  (first|go_end0|(refine bodyPost_ret (results_none rfl _ _ _) rfl ?_))
  exact dD.done (K4.out.trans (fA bT)) (I4.out.aao n (by have:=yF.out.2.2.2;omega)) (by rw [er.out,HU.out])
 | false =>
  rw [hs] at HS
  have er:Hid (fB en s l=lD en 2 s l):=afi HB.out hy0 hn0 hs
  clear h hs hy0 hn0
  have ep1:=Xq M;have ep2:=aas M
  go_enter Tryz.func54, Tryz.ntmps54
  go_wp2_with (go_at_call 51;(refine HS.out.mono ?_);rintro e w' ⟨rfl,aI⟩;obtain rfl:=aI.symm)
  go_loopg [4] 2 (fun f x wr=>∃(n:Nat) (s2:aF) (l2:List aC),x=.int .i64 n∧Hid (n+f=2)∧Hid (dB N T en M s2 l2 wr)∧Hid (Kept (fun b=>b=N∨b=M) w wr)∧Hid (fB en s l=lD en f s2 l2))
  case atStart=>exact ⟨0,s,l,rfl,by unfold Hid;decide,I0,K0,er⟩
  case round =>
   obtain ⟨n,s2,l2,rfl,hnf,I,K,hch⟩:=hrel
   clear HS
   obtain rfl|rfl|rfl:n=0∨n=1∨n=2:=by have:=hnf.out;omega
   ·obtain rfl:gk=2:=by have:=hnf.out;omega
    clear hnf
    have jW:Hid (fB en s l=match eF 1 en l2 with | .error er=>.error er | .ok (t,r)=>(if t.text=bs [83] then (if s2.yes≠E0∨(1:Nat)=0 then .error (2,dK en l2) else match dR en r with | .error er=>.error er | .ok (n,r1)=>lD en 1 {s2 with yes:=n} r1) else if t.text=bs [70] then (if s2.bW≠E0 then .error (2,dK en l2) else match dR en r with | .error er=>.error er | .ok (n,r1)=>lD en 1 {s2 with bW:=n} r1) else .error (2,dK en l2):bf aF)):=by unfold Hid;rw [hch.out,lD,if_neg (fun h=>by simp at h)];try rfl
    clear hch
    have HA:Hid (Calls Tryz.prog 56 #[.pointer (some ⟨N,0,none⟩)] wr (wW (dK en l2) wr)):=by obtain ⟨_,_,_,h⟩:=I.out.bI;exact lJ h
    have hfld:∀(t:aC) wx,(Instr.field 105 (.agg #[.int .i64 t.kind,.string t.text,.int .i64 t.at_]) 1).run Tryz.prog wx=.ok (.string t.text) wx:=fun _ _=>by kernel_rfl
    go_upto_region 9 with (first
     | (go_at_call 56;(refine HA.out.mono ?_);rintro e w' ⟨rfl,aI⟩;obtain rfl:=aI.symm)
     | (go_at_call 86;(refine (tC 1 I.out.bI).mono ?_);intro e w3 h_;rcases hu:eF 1 en l2 with e0|⟨t,r⟩;(obtain ⟨k_,rfl⟩:=h_.bad hu;have f_:dD N T en M (fB en s l) w (.panicked [{v:=bK e0,recovered:=false}]) _:=dD.thrown K.out k_ (by rw [jW.out,hu]);exact ⟨rfl,f_⟩);(obtain ⟨k_,Ee,r_⟩:=h_.ok hu;unfold FI at Ee;subst Ee;have HU:=ah hu;have hf1:=hfld t;have TB:Hid (oW r):=(by obtain ⟨_,_,_,h⟩:=r_;exact h.good);have I3:=ah (I.out.aS k_ r_ (by have:=wM hu;omega));have K3:=ah (K.out.trans (fO k_));clear k_ r_ h_ hu)))
    clear hfld
    obtain ⟨y22,y23,g22,g23⟩:=I3.out.adZ
    by_cases hS:t.text=bs [83]
    ·have q1:(t.text.toList==[83])=true:=ET hS
     by_cases hy:s2.yes=E0
     ·have q2:s2.yes.toList.isEmpty=true:=by rw [hy];exact ku
      have Ep:Hid (fB en s l=match dR en r with | .error er=>.error er | .ok (n,r1)=>lD en 1 {s2 with yes:=n} r1):=by unfold Hid;rw [jW.out,HU.out];dsimp only;rw [if_pos hS,if_neg (by rw [hy];simp)]
      clear hS jW hy
      cases hlb:dR en r with
      | error e0 =>
       go_wp2_with (go_at_call 92;(refine (oD I3.out.bI).mono ?_);intro e w4 h_;obtain ⟨k_,rfl⟩:=h_.bad hlb;have K4:=ah k_;clear k_ h_)
       exact ⟨rfl,dD.thrown K3.out K4.out (by rw [Ep.out,hlb])⟩
      | ok y =>
       obtain ⟨n,r1⟩:=y
       have yF:=ah (vM TB.out hlb)
       have Qn:Hid (fB en s l=lD en 1 {s2 with yes:=n} r1):=by unfold Hid;rw [Ep.out,hlb]
       go_wp2_with (go_at_call 92;(refine (oD I3.out.bI).mono ?_);intro e w4 h_;obtain ⟨k_,rfl,r_⟩:=h_.ok hlb;have I4:=ah (I3.out.aS k_ r_ yF.out.2.2.1);have K4:=ah (K3.out.trans (fO k_));obtain ⟨v4,c4,f4⟩:=I4.out.slot 22 (by decide);clear k_ r_ h_)
       go_roundg 1
       case measure=>omega
       case rel=>exact ⟨1,{s2 with yes:=n},r1,by go_num,by unfold Hid;decide,I4.out.ag7 n (by have:=yF.out.2.2.2;omega),K4.out.trans (fA bT),Qn⟩
     ·have q2:s2.yes.toList.isEmpty=false:=nS hy
      have fin:Hid (fB en s l=.error (2,dK en l2)):=by unfold Hid;rw [jW.out,HU.out];dsimp only;rw [if_pos hS,if_pos (.inl hy)]
      clear hS jW hy
      go_wp2_with (go_at_call 55;(refine (dH _ 2 (dK en l2) _).mono ?_);rintro e w9 ⟨rfl,rfl⟩)
      exact ⟨rfl,dD.thrown K3.out (Kept.refl _ _) fin.out⟩
    ·have q1:(t.text.toList==[83])=false:=Cc hS
     by_cases hF:t.text=bs [70]
     ·have q3:(t.text.toList==[70])=true:=ET hF
      by_cases hy:s2.bW=E0
      ·have q2:s2.bW.toList.isEmpty=true:=by rw [hy];exact ku
       have Ep:Hid (fB en s l=match dR en r with | .error er=>.error er | .ok (n,r1)=>lD en 1 {s2 with bW:=n} r1):=by unfold Hid;rw [jW.out,HU.out];dsimp only;rw [if_neg hS,if_pos hF,if_neg (by rw [hy];simp)]
       clear hS hF jW hy
       cases hlb:dR en r with
       | error e0 =>
        go_wp2_with (go_at_call 92;(refine (oD I3.out.bI).mono ?_);intro e w4 h_;obtain ⟨k_,rfl⟩:=h_.bad hlb;have K4:=ah k_;clear k_ h_)
        exact ⟨rfl,dD.thrown K3.out K4.out (by rw [Ep.out,hlb])⟩
       | ok y =>
        obtain ⟨n,r1⟩:=y
        have yF:=ah (vM TB.out hlb)
        have Qn:Hid (fB en s l=lD en 1 {s2 with bW:=n} r1):=by unfold Hid;rw [Ep.out,hlb]
        go_wp2_with (go_at_call 92;(refine (oD I3.out.bI).mono ?_);intro e w4 h_;obtain ⟨k_,rfl,r_⟩:=h_.ok hlb;have I4:=ah (I3.out.aS k_ r_ yF.out.2.2.1);have K4:=ah (K3.out.trans (fO k_));obtain ⟨v4,c4,f4⟩:=I4.out.slot 23 (by decide);clear k_ r_ h_)
        go_roundg 1
        case measure=>omega
        case rel=>exact ⟨1,{s2 with bW:=n},r1,by go_num,by unfold Hid;decide,I4.out.UJ n (by have:=yF.out.2.2.2;omega),K4.out.trans (fA bT),Qn⟩
      ·have q2:s2.bW.toList.isEmpty=false:=nS hy
       have fin:Hid (fB en s l=.error (2,dK en l2)):=by unfold Hid;rw [jW.out,HU.out];dsimp only;rw [if_neg hS,if_pos hF,if_pos hy]
       clear hS hF jW hy
       go_wp2_with (go_at_call 55;(refine (dH _ 2 (dK en l2) _).mono ?_);rintro e w9 ⟨rfl,rfl⟩)
       exact ⟨rfl,dD.thrown K3.out (Kept.refl _ _) fin.out⟩
     ·have q3:(t.text.toList==[70])=false:=Cc hF
      have fin:Hid (fB en s l=.error (2,dK en l2)):=by unfold Hid;rw [jW.out,HU.out];dsimp only;rw [if_neg hS,if_neg hF]
      clear hS hF jW
      go_wp2_with (go_at_call 55;(refine (dH _ 2 (dK en l2) _).mono ?_);rintro e w9 ⟨rfl,rfl⟩)
      exact ⟨rfl,dD.thrown K3.out (Kept.refl _ _) fin.out⟩
   ·obtain rfl:gk=1:=by have:=hnf.out;omega
    clear hnf
    obtain ⟨n2,a2,c2,hP⟩:=I.out.bI
    obtain ⟨c0,c1,cd,cf⟩:=hP.c0
    have hn:=hP.num
    clear cf
    by_cases hl0:l2=[]
    ·have z:decide ((0:Int)<(n2:Int))=false:=by rw [hn,hl0];rfl
     have z':decide (0<n2)=false:=by rw [hn,hl0];rfl
     have fin:Hid (fB en s l=.ok (s2,l2)):=by unfold Hid;rw [hch.out,lD,if_pos ⟨rfl,hl0⟩]
     clear hn hP hl0
     go_wp2_with fail
     (first|go_end0|(refine bodyPost_ret (results_none rfl _ _ _) rfl ?_))
     exact dD.done K.out I.out fin.out
    have h0:0<n2:=by rw [hn];exact List.length_pos_iff.2 hl0
    have h1:(0:Int)<(n2:Int):=by omega
    have z:decide ((0:Int)<(n2:Int))=true:=ak h1
    have z':decide (0<n2)=true:=ak h0
    have HL0:=ah hl0
    have hch:Hid (fB en s l=lD en 1 s2 l2):=hch
    have jW:Hid (fB en s l=match eF 1 en l2 with | .error er=>.error er | .ok (t,r)=>(if t.text=bs [83] then (if s2.yes≠E0∨(0:Nat)=0 then .error (2,dK en l2) else match dR en r with | .error er=>.error er | .ok (n,r1)=>lD en 0 {s2 with yes:=n} r1) else if t.text=bs [70] then (if s2.bW≠E0 then .error (2,dK en l2) else match dR en r with | .error er=>.error er | .ok (n,r1)=>lD en 0 {s2 with bW:=n} r1) else .error (2,dK en l2):bf aF)):=by unfold Hid;rw [hch.out,lD,if_neg (fun h=>HL0.out h.2)];try rfl
    clear hn hP hl0 hch
    have HA:Hid (Calls Tryz.prog 56 #[.pointer (some ⟨N,0,none⟩)] wr (wW (dK en l2) wr)):=by obtain ⟨_,_,_,h⟩:=I.out.bI;exact lJ h
    have hfld:∀(t:aC) wx,(Instr.field 105 (.agg #[.int .i64 t.kind,.string t.text,.int .i64 t.at_]) 1).run Tryz.prog wx=.ok (.string t.text) wx:=fun _ _=>by kernel_rfl
    go_upto_region 9 with (first
     | (go_at_call 56;(refine HA.out.mono ?_);rintro e w' ⟨rfl,aI⟩;obtain rfl:=aI.symm)
     | (go_at_call 86;(refine (tC 1 I.out.bI).mono ?_);intro e w3 h_;rcases hu:eF 1 en l2 with e0|⟨t,r⟩;(obtain ⟨k_,rfl⟩:=h_.bad hu;have f_:dD N T en M (fB en s l) w (.panicked [{v:=bK e0,recovered:=false}]) _:=dD.thrown K.out k_ (by rw [jW.out,hu]);exact ⟨rfl,f_⟩);(obtain ⟨k_,Ee,r_⟩:=h_.ok hu;unfold FI at Ee;subst Ee;have HU:=ah hu;have hf1:=hfld t;have TB:Hid (oW r):=(by obtain ⟨_,_,_,h⟩:=r_;exact h.good);have I3:=ah (I.out.aS k_ r_ (by have:=wM hu;omega));have K3:=ah (K.out.trans (fO k_));clear k_ r_ h_ hu)))
    clear hfld
    obtain ⟨y22,y23,g22,g23⟩:=I3.out.adZ
    by_cases hS:t.text=bs [83]
    ·have q1:(t.text.toList==[83])=true:=ET hS
     have fin:Hid (fB en s l=.error (2,dK en l2)):=by unfold Hid;rw [jW.out,HU.out];dsimp only;rw [if_pos hS,if_pos (by simp)]
     clear hS jW
     go_upto_region 12 with fail
     cases he:s2.yes.toList.isEmpty with
     | true =>
      go_wp2_with (go_at_call 55;(refine (dH _ 2 (dK en l2) _).mono ?_);rintro e w9 ⟨rfl,rfl⟩)
      exact ⟨rfl,dD.thrown K3.out (Kept.refl _ _) fin.out⟩
     | false =>
      go_wp2_with (go_at_call 55;(refine (dH _ 2 (dK en l2) _).mono ?_);rintro e w9 ⟨rfl,rfl⟩)
      exact ⟨rfl,dD.thrown K3.out (Kept.refl _ _) fin.out⟩
    ·have q1:(t.text.toList==[83])=false:=Cc hS
     by_cases hF:t.text=bs [70]
     ·have q3:(t.text.toList==[70])=true:=ET hF
      by_cases hy:s2.bW=E0
      ·have q2:s2.bW.toList.isEmpty=true:=by rw [hy];exact ku
       have Ep:Hid (fB en s l=match dR en r with | .error er=>.error er | .ok (n,r1)=>lD en 0 {s2 with bW:=n} r1):=by unfold Hid;rw [jW.out,HU.out];dsimp only;rw [if_neg hS,if_pos hF,if_neg (by rw [hy];simp)]
       clear hS hF jW hy
       cases hlb:dR en r with
       | error e0 =>
        go_wp2_with (go_at_call 92;(refine (oD I3.out.bI).mono ?_);intro e w4 h_;obtain ⟨k_,rfl⟩:=h_.bad hlb;have K4:=ah k_;clear k_ h_)
        exact ⟨rfl,dD.thrown K3.out K4.out (by rw [Ep.out,hlb])⟩
       | ok y =>
        obtain ⟨n,r1⟩:=y
        have yF:=ah (vM TB.out hlb)
        have Qn:Hid (fB en s l=lD en 0 {s2 with bW:=n} r1):=by unfold Hid;rw [Ep.out,hlb]
        go_wp2_with (go_at_call 92;(refine (oD I3.out.bI).mono ?_);intro e w4 h_;obtain ⟨k_,rfl,r_⟩:=h_.ok hlb;have I4:=ah (I3.out.aS k_ r_ yF.out.2.2.1);have K4:=ah (K3.out.trans (fO k_));obtain ⟨v4,c4,f4⟩:=I4.out.slot 23 (by decide);clear k_ r_ h_)
        go_roundg 0
        case measure=>omega
        case rel=>exact ⟨2,{s2 with bW:=n},r1,by go_num,by unfold Hid;decide,I4.out.UJ n (by have:=yF.out.2.2.2;omega),K4.out.trans (fA bT),Qn⟩
      ·have q2:s2.bW.toList.isEmpty=false:=nS hy
       have fin:Hid (fB en s l=.error (2,dK en l2)):=by unfold Hid;rw [jW.out,HU.out];dsimp only;rw [if_neg hS,if_pos hF,if_pos hy]
       clear hS hF jW hy
       go_wp2_with (go_at_call 55;(refine (dH _ 2 (dK en l2) _).mono ?_);rintro e w9 ⟨rfl,rfl⟩)
       exact ⟨rfl,dD.thrown K3.out (Kept.refl _ _) fin.out⟩
     ·have q3:(t.text.toList==[70])=false:=Cc hF
      have fin:Hid (fB en s l=.error (2,dK en l2)):=by unfold Hid;rw [jW.out,HU.out];dsimp only;rw [if_neg hS,if_neg hF]
      clear hS hF jW
      go_wp2_with (go_at_call 55;(refine (dH _ 2 (dK en l2) _).mono ?_);rintro e w9 ⟨rfl,rfl⟩)
      exact ⟨rfl,dD.thrown K3.out (Kept.refl _ _) fin.out⟩
   ·obtain rfl:gk=0:=by have:=hnf.out;omega
    have fin:Hid (fB en s l=.ok (s2,l2)):=hch
    clear hnf hch
    go_wp2_with fail
    (first|go_end0|(refine bodyPost_ret (results_none rfl _ _ _) rfl ?_))
    exact dD.done K.out I.out fin.out
end Go.Proofs.YtgoijmpahffnhaaGreatDoor
