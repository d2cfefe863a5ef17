/-  -/
import Derived.Test.YtgoijmpahffnhaaGreatDoorRd2
import Derived.Test.YtgoijmpahffnhaaGreatDoorLc14
namespace Go.Proofs.YtgoijmpahffnhaaGreatDoor
set_option linter.all false
open Go.RowKit
set_option maxRecDepth 100000
set_option maxHeartbeats 4000000
def dS:List UInt8→Option (List UInt8×Nat)
 | []=>none
 | [c]=>if c=39 then some ([],1) else none
 | c::d::r=>if c=39 then (if d=39 then (dS r).map fun x=>(39::x.1,x.2+2) else some ([],1)) else (dS (d::r)).map fun x=>(c::x.1,x.2+1)
def kQ (s:aj) (j:Nat) (bs:List UInt8) (k:Nat):Option (List UInt8×Nat)→cu (aj×Nat)
 | none=>.error (2,s.size)
 | some (b,n)=>.ok ((⟨(bs++b).toArray⟩,j),k+n)
def gY (s:aj) (i:Nat):cu (aj×Nat) :=
 match bT 39 s i with
 | .error e=>.error e
 | .ok k=>kQ s (k-1) [] k (dS (s.data.toList.drop k))
theorem acj {s:aj} {j k:Nat} {bs:List UInt8} (h:s.size≤k):kQ s j bs k (dS (s.data.toList.drop k))=.error (2,s.size):=by
 rw [drop_end h];rfl
theorem Z7 {s:aj} {j k:Nat} {bs:List UInt8} (h:k<s.size) (hc:s[k].toNat≠39) :
  kQ s j bs k (dS (s.data.toList.drop k))=kQ s j (bs++[s[k]]) (k+1) (dS (s.data.toList.drop (k+1))):=by
 have hc':¬s[k]=39:=fun e=>hc (by rw [e];rfl)
 rw [drop_cons h]
 by_cases h2:k+1<s.size
 ·rw [drop_cons h2,dS,if_neg hc']
  cases dS (s[k+1]::s.data.toList.drop (k+1+1)) with
  | none=>rfl
  | some x=>obtain ⟨b,n⟩:=x;simp only [Option.map,kQ,List.append_assoc,List.singleton_append];congr 2;omega
 ·have e:dS [s[k]]=none:=by rw [dS,if_neg hc']
  rw [drop_end (by omega),e];rfl
theorem XH {s:aj} {j k:Nat} {bs:List UInt8} (h:k+1<s.size) (hc:s[k].toNat=39) (hd:s[k+1].toNat=39) :
  kQ s j bs k (dS (s.data.toList.drop k))=kQ s j (bs++[s[k]]) (k+2) (dS (s.data.toList.drop (k+2))):=by
 have hc':s[k]=39:=UInt8.toNat_inj.1 (by simpa using hc)
 have hd':s[k+1]=39:=UInt8.toNat_inj.1 (by simpa using hd)
 rw [drop_cons (show k<s.size by omega),drop_cons h,dS,if_pos hc',if_pos hd',hc']
 show kQ s j bs k ((dS (s.data.toList.drop (k+2))).map _)=_
 cases dS (s.data.toList.drop (k+2)) with
 | none=>rfl
 | some x=>obtain ⟨b,n⟩:=x;simp only [Option.map,kQ,List.append_assoc,List.singleton_append];congr 2;omega
theorem Z8 {s:aj} {j k:Nat} {bs:List UInt8} (h:k<s.size) (hc:s[k].toNat=39) (hd:∀(h:k+1<s.size),s[k+1].toNat≠39) :
  kQ s j bs k (dS (s.data.toList.drop k))=.ok ((⟨bs.toArray⟩,j),k+1):=by
 have hc':s[k]=39:=UInt8.toNat_inj.1 (by simpa using hc)
 rw [drop_cons h]
 by_cases h2:k+1<s.size
 ·have hd':¬s[k+1]=39:=fun e=>hd h2 (by rw [e];rfl)
  rw [drop_cons h2,dS,if_pos hc',if_neg hd'];simp [kQ]
 ·rw [drop_end (by omega),dS,if_pos hc'];simp [kQ]
theorem uw:∀(l:List UInt8) (b:List UInt8) (n:Nat),dS l=some (b,n)→n≤l.length∧b.length<n
 | [],b,n,h=>by simp [dS] at h
 | [c],b,n,h=>by
  rw [dS] at h;split at h
  ·simp at h;obtain ⟨rfl,rfl⟩:=h;simp
  ·cases h
 | c::d::r,b,n,h=>by
  rw [dS] at h;split at h
  ·split at h
   ·cases hr:dS r with
    | none=>rw [hr] at h;cases h
    | some x =>
     obtain ⟨b',n'⟩:=x
     rw [hr] at h;simp at h;obtain ⟨rfl,rfl⟩:=h
     have:=uw r b' n' hr
     simp only [List.length_cons];omega
   ·simp at h;obtain ⟨rfl,rfl⟩:=h;simp
  ·cases hr:dS (d::r) with
   | none=>rw [hr] at h;cases h
   | some x =>
    obtain ⟨b',n'⟩:=x
    rw [hr] at h;simp at h;obtain ⟨rfl,rfl⟩:=h
    have:=uw (d::r) b' n' hr
    simp only [List.length_cons] at this⊢;omega
theorem fC {c:Nat} {s:aj} {i k:Nat} (h:bT c s i=.ok k):i<k∧k≤s.size∧k=skip s i+1:=by
 unfold bT at h
 split at h
 ·rename_i hp
  simp only [Except.ok.injEq] at h;subst h
  have h1:=pW s i
  have:skip s i<s.size:=oz (by omega)
  omega
 ·cases h
theorem jT {s:aj} {i k a:Nat} {x:aj} (h:gY s i=.ok ((x,a),k)):i<k∧k≤s.size∧x.size≤s.size∧a<s.size:=by
 unfold gY at h
 cases hn:bT 39 s i with
 | error e=>rw [hn] at h;cases h
 | ok j =>
  rw [hn] at h
  have h1:=fC hn
  dsimp only at h
  cases ht:dS (s.data.toList.drop j) with
  | none=>rw [ht] at h;cases h
  | some y =>
   obtain ⟨b,n⟩:=y
   rw [ht] at h
   simp only [kQ,Except.ok.injEq,Prod.mk.injEq,List.nil_append] at h
   obtain ⟨⟨rfl,rfl⟩,rfl⟩:=h
   have h2:=uw _ _ _ ht
   rw [List.length_drop] at h2
   have e:s.data.toList.length=s.size:=rfl
   refine ⟨by omega,by omega,?_,by omega⟩
   show b.toArray.size≤_
   simp;omega
theorem vU (N W:Nat) (s:aj) (i d:Nat) (w:World) (hr:dw N W s i d w) (hi:i≤s.size) (hs:s.size≤1000000000) :
  Calls Tryz.prog 299 #[.pointer (some ⟨N,0,none⟩)] w (bC N W s d (gY s i) xM w):=by
 have HR:=ah hr
 have hN:=hr.lt;have hW:=hr.qO;clear hr
 obtain ⟨i0,hi0,hz0,hz1,hz2⟩:=info_parts Tryz.infoB
 go_enter Tryz.func299, Tryz.ntmps299
 go_wp2_with fail
 refine (eX 39 N W (by decide) s i d _ HR.out hi hs).mono ?_
 rintro e w1 ⟨K1,h⟩
 cases hn:bT 39 s i with
 | error er =>
  rw [hn] at h
  obtain rfl:=h
  have e1:gY s i=.error er:=by unfold gY;rw [hn]
  have fin:Hid (∀e,Threw er e→bC N W s d (gY s i) xM w e w1):=by intro e h;unfold bC;rw [e1];exact ⟨K1,h⟩
  clear hn e1
  go_wp2_with fail
  exact ⟨rfl,fin.out _ rfl⟩
 | ok k0 =>
  rw [hn] at h
  obtain ⟨rfl,R1⟩:=h
  obtain ⟨hk0,ahc,aeP⟩:=fC hn
  obtain ⟨j,rfl⟩:∃j,k0=j+1:=⟨skip s i,aeP⟩
  have e1:Hid (gY s i=kQ s j [] (j+1) (dS (s.data.toList.drop (j+1)))):=by unfold Hid gY;rw [hn];rfl
  have q1:=R1.c1
  have Lr:=ah R1;have iL:=ah K1
  have ej:((j+1:Nat):Int)-1=j:=by omega
  have hsz:=K1.size
  clear R1 K1 hn aeP
  go_wp2_with fail
  go_loopg [5] (s.size-(j+1)) (fun f v wr=>∃(k:Nat) (bs:List UInt8) (a:Option Addr) (c:Nat),j+1≤k∧k≤s.size∧f=s.size-k∧bs.length≤k∧v=.slice a bs.length c∧aS wr w.heap.size 5 1 v bs.length (qA bs)∧
   Hid (gY s i=kQ s j bs k (dS (s.data.toList.drop k)))∧dw N W s k d wr∧Kept (· = N) w wr)
  case atStart=>exact ⟨j+1,[],none,0,Nat.le_refl _,ahc,rfl,by simp,rfl,aS.nil _ _ _ _,e1,Lr.out,iL.out⟩
  case round =>
   obtain ⟨k,bs,a,c,hk1,hk2,rfl,hbl,rfl,hW,htx,hR,hK⟩:=hrel
   clear e1
   have q0:=hR.c0;have q1:=hR.c1;have f1:=hR.fr 1
   have RR:=ah hR;have KK:=ah hK;have WW:=ah hW
   clear hR hK Lr iL hW
   by_cases hlt:k<s.size
   ·have g1:((k:Int)==(s.size:Int))=false:=by simp;omega
    have bi:(k:Int)<(s.size:Int):=by omega
    by_cases hc:s[k].toNat=39
    ·have g2:((s[k].toNat:Int)==39)=true:=by simp;omega
     have hcv:∀(n m:Nat) (u:Value),(convert 28 9 (.slice a bs.length c)).run Tryz.prog (((wr.drewN n).setCell ⟨N,1,none⟩ u).drewN m)=.ok (.string ⟨bs.toArray⟩) (((wr.drewN n).setCell ⟨N,1,none⟩ u).drewN m):=fun n m u =>
      aS.conv (((WW.out.kept (Kept.drewN' _ n) (fun _ _ h=>h)).setCell (p:=⟨N,1,none⟩) (fun h=>by have:=(WW.out.lt N h).1;omega) u).kept (Kept.drewN' _ m) (fun _ _ h=>h))
     obtain ⟨k1,RV⟩:∃k1:Nat,k1=k+1:=⟨_,rfl⟩
     have ajB:(k:Int)+1=(k1:Int):=by omega
     have hka:k1≤k+1:=by omega
     have hkb:k+1≤k1:=by omega
     by_cases hd:∃h:k+1<s.size,s[k+1].toNat=39
     ·obtain ⟨h2,h3⟩:=hd
      have hl1:k1<s.size:=by omega
      have h3':s[k1].toNat=39:=by simp only [RV];exact h3
      have g3:((k1:Int)==(s.size:Int))=false:=by simp;omega
      have g4:((s[k1].toNat:Int) != 39)=false:=by simp;omega
      have bi2:(k1:Int)<(s.size:Int):=by omega
      have Z9:Hid (gY s i=kQ s j (bs++[s[k]]) (k+2) (dS (s.data.toList.drop (k+2)))):=htx.out.trans (XH h2 hc h3)
      clear hc htx h3 hcv h3' RV h2
      go_wp2_with fail
      go_quiet (fail)
      revert nq;intro nq1
      go_wp2_with fail
      go_quiet (fail)
      revert nq;intro wO
      go_wp2_with fail
      go_quiet (fail)
      revert nq;intro nq3
      have RP:=ah ((((RR.out.drewN (nq1+wO)).setAt k1).drewN nq3).setAt (k1+1));have KP:=ah ((((KK.out.drewN (nq1+wO)).setCell (p:=⟨N,1,none⟩) (.inl rfl) (.int .i64 (k1:Int))).drewN nq3).setCell (p:=⟨N,1,none⟩) (.inl rfl) (.int .i64 ((k1+1:Nat):Int)))
      have WP:=ah ((((((WW.out.kept (Kept.drewN' _ (nq1+wO)) (fun _ _ h=>h)).setCell (p:=⟨N,1,none⟩) (fun h=>by have:=(WW.out.lt N h).1;omega) (.int .i64 (k1:Int)))).kept (Kept.drewN' _ nq3) (fun _ _ h=>h)).setCell (p:=⟨N,1,none⟩) (fun h=>by have:=(WW.out.lt N h).1;omega) (.int .i64 ((k1+1:Nat):Int))).alloc (.cells #[.int .u8 (s[k].toNat:Int)] 5))
      have hbs:(bs++[s[k]]).length=bs.length+1:=by simp
      have hcs:qA bs++[.int .u8 (s[k].toNat:Int)]=qA (bs++[s[k]]):=by simp [qA]
      have Pv:=ah hbs;have HCS:=ah hcs;clear hbs hcs
      go_wp2_with (at_builtin;go_loud (refine dK _ rfl (.tmp 80) (.tmp 82) 28 28 rfl w.heap.size 5 i0 (.int .u8 0) 1 1 Tryz.underlying28 hi0 hz0 hz1 hz2 rfl (.slice a bs.length c) bs.length (qA bs) rfl WP.out _ 1 [.int .u8 (s[k].toNat:Int)] rfl (Src.ofSlice _ Tryz.underlying28 _ _ _ _ rfl (World.news_of_block (fr:=(0,0)) (cs:=#[.int .u8 (s[k].toNat:Int)]) (dX (by simp))) (by intro u hu;simp at hu;subst hu;rfl)) (by unfold maxLen;omega) (by omega) (by have:=KP.out.size;simp at this⊢;omega) ?_);intro a3 c3 w3 hW3 hg3 ho3)
      rw [HCS.out] at hW3
      have hlow:∀g,(Value.slice a bs.length c).ownBlock=some g→w.heap.size≤g:=fun g hg=>(WW.out.lt g hg).1
      have K3:Hid (Kept (· = N) w w3):=(KP.out.alloc _).grown hg3 fun x hx=>.inr (hlow x hx)
      have R3:Hid (dw N W s (k1+1) d w3):=RP.out.kept (((Kept.refl _ _).alloc _).grown (X:=fun x=>w.heap.size≤x) hg3 fun x hx=>.inl (hlow x hx)) (by omega) (by omega)
      have W3:=ah hW3;have Ey:Hid (gY s i=kQ s j (bs++[s[k]]) (k1+1) (dS (s.data.toList.drop (k1+1)))):=by rw [show k1+1=k+2 by omega];exact Z9.out
      clear hW3 hg3 ho3 hlow
      go_wp2_with fail
      go_roundg (s.size-(k1+1))
      case measure=>omega
      case rel=>exact ⟨k1+1,bs++[s[k]],a3,c3,by omega,by omega,rfl,by rw [Pv.out];omega,by rw [Pv.out],by rw [Pv.out];exact W3.out,Ey.out,R3.out,K3.out⟩
     ·have fin:Hid (∀w',dw N W s (k+1) d w'→Kept (· = N) w w'→bC N W s d (gY s i) xM w (.returned (.tuple #[.string ⟨bs.toArray⟩,.int .i64 j])) w'):=by
       intro w' h1 h2;unfold bC;rw [htx.out,Z8 hlt hc (fun h e=>hd ⟨h,e⟩)];exact ⟨h2,_,rfl,rfl,h1⟩
      have fin2:Hid (∀w',dw N W s k1 d w'→Kept (· = N) w w'→bC N W s d (gY s i) xM w (.returned (.tuple #[.string ⟨bs.toArray⟩,.int .i64 j])) w'):=by rw [RV];exact fin
      have RP:=ah (fun n m=>((RR.out.drewN n).setAt k1).drewN m);have KP:=ah (fun n m=>((KK.out.drewN n).setCell (p:=⟨N,1,none⟩) (.inl rfl) (.int .i64 (k1:Int))).drewN m)
      by_cases h2:k+1<s.size
      ·have hl1:k1<s.size:=by omega
       have h3':s[k1].toNat≠39:=by simp only [RV];exact fun e=>hd ⟨h2,e⟩
       have g3:((k1:Int)==(s.size:Int))=false:=by simp;omega
       have g4:((s[k1].toNat:Int) != 39)=true:=by simp;omega
       have bi2:(k1:Int)<(s.size:Int):=by omega
       clear hc htx hd h3' RV h2
       go_wp2_with fail
       go_quiet (fail)
       revert nq;intro nq1
       go_wp2_with fail
       go_quiet (fail)
       revert nq;intro wO
       go_wp2_with fail
       go_quiet (fail)
       go_wp2_with fail
       go_ret2
       exact fin2.out _ (RP.out _ _) (KP.out _ _)
      ·have g3:((k1:Int)==(s.size:Int))=true:=by simp;omega
       clear hc htx hd RV
       go_wp2_with fail
       go_quiet (fail)
       revert nq;intro nq1
       go_wp2_with fail
       go_quiet (fail)
       revert nq;intro wO
       go_wp2_with fail
       go_quiet (fail)
       go_wp2_with fail
       go_ret2
       exact fin2.out _ (RP.out _ _) (KP.out _ _)
    ·have g2:((s[k].toNat:Int)==39)=false:=by simp;omega
     have Z9:Hid (gY s i=kQ s j (bs++[s[k]]) (k+1) (dS (s.data.toList.drop (k+1)))):=htx.out.trans (Z7 hlt hc)
     clear hc htx
     go_wp2_with fail
     go_quiet (fail)
     revert nq;intro nq1
     go_wp2_with fail
     go_quiet (fail)
     revert nq;intro wO
     have RP:=ah ((RR.out.drewN (nq1+wO)).setAt (k+1));have KP:=ah ((KK.out.drewN (nq1+wO)).setCell (p:=⟨N,1,none⟩) (.inl rfl) (.int .i64 ((k+1:Nat):Int)))
     have WP:=ah (((WW.out.kept (Kept.drewN' _ (nq1+wO)) (fun _ _ h=>h)).setCell (p:=⟨N,1,none⟩) (fun h=>by have:=(WW.out.lt N h).1;omega) (.int .i64 ((k+1:Nat):Int))).alloc (.cells #[.int .u8 (s[k].toNat:Int)] 5))
     have hbs:(bs++[s[k]]).length=bs.length+1:=by simp
     have hcs:qA bs++[.int .u8 (s[k].toNat:Int)]=qA (bs++[s[k]]):=by simp [qA]
     have Pv:=ah hbs;have HCS:=ah hcs;clear hbs hcs
     go_wp2_with (at_builtin;go_loud (refine dK _ rfl (.tmp 80) (.tmp 82) 28 28 rfl w.heap.size 5 i0 (.int .u8 0) 1 1 Tryz.underlying28 hi0 hz0 hz1 hz2 rfl (.slice a bs.length c) bs.length (qA bs) rfl WP.out _ 1 [.int .u8 (s[k].toNat:Int)] rfl (Src.ofSlice _ Tryz.underlying28 _ _ _ _ rfl (World.news_of_block (fr:=(0,0)) (cs:=#[.int .u8 (s[k].toNat:Int)]) (dX (by simp))) (by intro u hu;simp at hu;subst hu;rfl)) (by unfold maxLen;omega) (by omega) (by have:=KP.out.size;simp at this⊢;omega) ?_);intro a3 c3 w3 hW3 hg3 ho3)
     rw [HCS.out] at hW3
     have hlow:∀g,(Value.slice a bs.length c).ownBlock=some g→w.heap.size≤g:=fun g hg=>(WW.out.lt g hg).1
     have K3:Hid (Kept (· = N) w w3):=(KP.out.alloc _).grown hg3 fun x hx=>.inr (hlow x hx)
     have R3:Hid (dw N W s (k+1) d w3):=RP.out.kept (((Kept.refl _ _).alloc _).grown (X:=fun x=>w.heap.size≤x) hg3 fun x hx=>.inl (hlow x hx)) (by omega) (by omega)
     have W3:=ah hW3;have Ey:Hid _:=Z9.out
     clear hW3 hg3 ho3 hlow
     go_wp2_with fail
     go_roundg (s.size-(k+1))
     case measure=>omega
     case rel=>exact ⟨k+1,bs++[s[k]],a3,c3,by omega,by omega,rfl,by rw [Pv.out];omega,by rw [Pv.out],by rw [Pv.out];exact W3.out,Ey.out,R3.out,K3.out⟩
   ·have g1:((k:Int)==(s.size:Int))=true:=by simp;omega
    have e2:Hid (gY s i=.error (2,k)):=by unfold Hid;rw [htx.out,acj (by omega)];rw [show s.size=k by omega]
    have fin:Hid (∀e w',Threw (2,k) e→Kept (· = N) w w'→bC N W s d (gY s i) xM w e w'):=by intro e w' h h2;unfold bC;rw [e2.out];exact ⟨h2,h⟩
    go_wp2_with fail
    go_quiet (fail)
    go_wp2_with fail
    refine (iy _ 2 k _).mono ?_
    rintro e w2 ⟨rfl,rfl⟩
    go_wp2_with fail
    exact ⟨rfl,fin.out _ _ rfl (KK.out.drewN _)⟩
end Go.Proofs.YtgoijmpahffnhaaGreatDoor
