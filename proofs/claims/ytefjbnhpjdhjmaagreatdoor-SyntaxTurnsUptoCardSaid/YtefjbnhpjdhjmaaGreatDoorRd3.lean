/-  -/
import Derived.Test.YtefjbnhpjdhjmaaGreatDoorRd2
import Derived.Test.YtefjbnhpjdhjmaaGreatDoorTm9
namespace Go.Proofs.YtefjbnhpjdhjmaaGreatDoor
set_option linter.all false
open Go.RowKit
set_option maxRecDepth 100000
set_option maxHeartbeats 4000000
def fM:List UInt8→Option (List UInt8×Nat)
 | []=>none
 | [c]=>if c=39 then some ([],1) else none
 | c::d::r=>if c=39 then (if d=39 then (fM r).map fun x=>(39::x.1,x.2+2) else some ([],1)) else (fM (d::r)).map fun x=>(c::x.1,x.2+1)
def mX (s:aj) (j:Nat) (bs:List UInt8) (k:Nat):Option (List UInt8×Nat)→bT (aj×Nat)
 | none=>.error (2,s.size)
 | some (b,n)=>.ok ((⟨(bs++b).toArray⟩,j),k+n)
def iL (s:aj) (i:Nat):bT (aj×Nat) :=
 match dh 39 s i with
 | .error e=>.error e
 | .ok k=>mX s (k-1) [] k (fM (s.data.toList.drop k))
theorem abt {s:aj} {j k:Nat} {bs:List UInt8} (h:s.size≤k):mX s j bs k (fM (s.data.toList.drop k))=.error (2,s.size):=by
 rw [drop_end h];rfl
theorem Zm {s:aj} {j k:Nat} {bs:List UInt8} (h:k<s.size) (hc:s[k].toNat≠39) :
  mX s j bs k (fM (s.data.toList.drop k))=mX s j (bs++[s[k]]) (k+1) (fM (s.data.toList.drop (k+1))):=by
 have hc':¬s[k]=39:=fun e=>hc (by rw [e];rfl)
 rw [drop_cons h]
 by_cases h2:k+1<s.size
 ·rw [drop_cons h2,fM,if_neg hc']
  cases fM (s[k+1]::s.data.toList.drop (k+1+1)) with
  | none=>rfl
  | some x=>obtain ⟨b,n⟩:=x;simp only [Option.map,mX,List.append_assoc,List.singleton_append];congr 2;omega
 ·have e:fM [s[k]]=none:=by rw [fM,if_neg hc']
  rw [drop_end (by omega),e];rfl
theorem WO {s:aj} {j k:Nat} {bs:List UInt8} (h:k+1<s.size) (hc:s[k].toNat=39) (hd:s[k+1].toNat=39) :
  mX s j bs k (fM (s.data.toList.drop k))=mX s j (bs++[s[k]]) (k+2) (fM (s.data.toList.drop (k+2))):=by
 have hc':s[k]=39:=UInt8.toNat_inj.1 (by simpa using hc)
 have hd':s[k+1]=39:=UInt8.toNat_inj.1 (by simpa using hd)
 rw [drop_cons (show k<s.size by omega),drop_cons h,fM,if_pos hc',if_pos hd',hc']
 show mX s j bs k ((fM (s.data.toList.drop (k+2))).map _)=_
 cases fM (s.data.toList.drop (k+2)) with
 | none=>rfl
 | some x=>obtain ⟨b,n⟩:=x;simp only [Option.map,mX,List.append_assoc,List.singleton_append];congr 2;omega
theorem Zn {s:aj} {j k:Nat} {bs:List UInt8} (h:k<s.size) (hc:s[k].toNat=39) (hd:∀(h:k+1<s.size),s[k+1].toNat≠39) :
  mX s j bs k (fM (s.data.toList.drop k))=.ok ((⟨bs.toArray⟩,j),k+1):=by
 have hc':s[k]=39:=UInt8.toNat_inj.1 (by simpa using hc)
 rw [drop_cons h]
 by_cases h2:k+1<s.size
 ·have hd':¬s[k+1]=39:=fun e=>hd h2 (by rw [e];rfl)
  rw [drop_cons h2,fM,if_pos hc',if_neg hd'];simp [mX]
 ·rw [drop_end (by omega),fM,if_pos hc'];simp [mX]
theorem vJ:∀(l:List UInt8) (b:List UInt8) (n:Nat),fM l=some (b,n)→n≤l.length∧b.length<n
 | [],b,n,h=>by simp [fM] at h
 | [c],b,n,h=>by
  rw [fM] at h;split at h
  ·simp at h;obtain ⟨rfl,rfl⟩:=h;simp
  ·cases h
 | c::d::r,b,n,h=>by
  rw [fM] at h;split at h
  ·split at h
   ·cases hr:fM r with
    | none=>rw [hr] at h;cases h
    | some x =>
     obtain ⟨b',n'⟩:=x
     rw [hr] at h;simp at h;obtain ⟨rfl,rfl⟩:=h
     have:=vJ r b' n' hr
     simp only [List.length_cons];omega
   ·simp at h;obtain ⟨rfl,rfl⟩:=h;simp
  ·cases hr:fM (d::r) with
   | none=>rw [hr] at h;cases h
   | some x =>
    obtain ⟨b',n'⟩:=x
    rw [hr] at h;simp at h;obtain ⟨rfl,rfl⟩:=h
    have:=vJ (d::r) b' n' hr
    simp only [List.length_cons] at this⊢;omega
theorem gX {c:Nat} {s:aj} {i k:Nat} (h:dh c s i=.ok k):i<k∧k≤s.size∧k=skip s i+1:=by
 unfold dh at h
 split at h
 ·rename_i hp
  simp only [Except.ok.injEq] at h;subst h
  have h1:=kJ s i
  have:skip s i<s.size:=oN (by omega)
  omega
 ·cases h
theorem mg {s:aj} {i k a:Nat} {x:aj} (h:iL s i=.ok ((x,a),k)):i<k∧k≤s.size∧x.size≤s.size∧a<s.size:=by
 unfold iL at h
 cases hn:dh 39 s i with
 | error e=>rw [hn] at h;cases h
 | ok j =>
  rw [hn] at h
  have h1:=gX hn
  dsimp only at h
  cases ht:fM (s.data.toList.drop j) with
  | none=>rw [ht] at h;cases h
  | some y =>
   obtain ⟨b,n⟩:=y
   rw [ht] at h
   simp only [mX,Except.ok.injEq,Prod.mk.injEq,List.nil_append] at h
   obtain ⟨⟨rfl,rfl⟩,rfl⟩:=h
   have h2:=vJ _ _ _ ht
   rw [List.length_drop] at h2
   have e:s.data.toList.length=s.size:=rfl
   refine ⟨by omega,by omega,?_,by omega⟩
   show b.toArray.size≤_
   simp;omega
theorem xA (N W:Nat) (s:aj) (i d:Nat) (w:World) (hr:fB N W s i d w) (hi:i≤s.size) (hs:s.size≤1000000000) :
  Calls Tryz.prog 130 #[.pointer (some ⟨N,0,none⟩)] w (dn N W s d (iL s i) yL w):=by
 have HR:=ah hr
 have hN:=hr.lt;have hW:=hr.sK;clear hr
 obtain ⟨i0,hi0,hz0,hz1,hz2⟩:=info_parts Tryz.infoB
 go_enter Tryz.func130, Tryz.ntmps130
 go_wp2_with fail
 refine (iw 39 N W (by decide) s i d _ HR.out hi hs).mono ?_
 rintro e w1 ⟨K1,h⟩
 cases hn:dh 39 s i with
 | error er =>
  rw [hn] at h
  obtain rfl:=h
  have e1:iL s i=.error er:=by unfold iL;rw [hn]
  have fin:Hid (∀e,Threw er e→dn N W s d (iL s i) yL w e w1):=by intro e h;unfold dn;rw [e1];exact ⟨K1,h⟩
  clear hn e1
  go_wp2_with fail
  exact ⟨rfl,fin.out _ rfl⟩
 | ok k0 =>
  rw [hn] at h
  obtain ⟨rfl,R1⟩:=h
  obtain ⟨hk0,afj,adq⟩:=gX hn
  obtain ⟨j,rfl⟩:∃j,k0=j+1:=⟨skip s i,adq⟩
  have e1:Hid (iL s i=mX s j [] (j+1) (fM (s.data.toList.drop (j+1)))):=by unfold Hid iL;rw [hn];rfl
  have q1:=R1.c1
  have L6:=ah R1;have jU:=ah K1
  have ej:((j+1:Nat):Int)-1=j:=by omega
  have hsz:=K1.size
  clear R1 K1 hn adq
  go_wp2_with fail
  go_loopg [5] (s.size-(j+1)) (fun f v wr=>∃(k:Nat) (bs:List UInt8) (a:Option Addr) (c:Nat),j+1≤k∧k≤s.size∧f=s.size-k∧bs.length≤k∧v=.slice a bs.length c∧cZ wr w.heap.size 5 1 v bs.length (rV bs)∧
   Hid (iL s i=mX s j bs k (fM (s.data.toList.drop k)))∧fB N W s k d wr∧Kept (· = N) w wr)
  case atStart=>exact ⟨j+1,[],none,0,Nat.le_refl _,afj,rfl,by simp,rfl,cZ.nil _ _ _ _,e1,L6.out,jU.out⟩
  case round =>
   obtain ⟨k,bs,a,c,hk1,hk2,rfl,hbl,rfl,hW,htx,hR,hK⟩:=hrel
   clear e1
   have q0:=hR.c0;have q1:=hR.c1;have f1:=hR.fr 1
   have RR:=ah hR;have KK:=ah hK;have WW:=ah hW
   clear hR hK L6 jU hW
   by_cases hlt:k<s.size
   ·have g1:((k:Int)==(s.size:Int))=false:=by simp;omega
    have bi:(k:Int)<(s.size:Int):=by omega
    by_cases hc:s[k].toNat=39
    ·have g2:((s[k].toNat:Int)==39)=true:=by simp;omega
     have hcv:∀(n m:Nat) (u:Value),(convert 48 9 (.slice a bs.length c)).run Tryz.prog (((wr.drewN n).setCell ⟨N,1,none⟩ u).drewN m)=.ok (.string ⟨bs.toArray⟩) (((wr.drewN n).setCell ⟨N,1,none⟩ u).drewN m):=fun n m u =>
      cZ.conv (((WW.out.kept (Kept.drewN' _ n) (fun _ _ h=>h)).setCell (p:=⟨N,1,none⟩) (fun h=>by have:=(WW.out.lt N h).1;omega) u).kept (Kept.drewN' _ m) (fun _ _ h=>h))
     obtain ⟨k1,RG⟩:∃k1:Nat,k1=k+1:=⟨_,rfl⟩
     have ag5:(k:Int)+1=(k1:Int):=by omega
     have hka:k1≤k+1:=by omega
     have hkb:k+1≤k1:=by omega
     by_cases hd:∃h:k+1<s.size,s[k+1].toNat=39
     ·obtain ⟨h2,h3⟩:=hd
      have hl1:k1<s.size:=by omega
      have h3':s[k1].toNat=39:=by simp only [RG];exact h3
      have g3:((k1:Int)==(s.size:Int))=false:=by simp;omega
      have g4:((s[k1].toNat:Int) != 39)=false:=by simp;omega
      have bi2:(k1:Int)<(s.size:Int):=by omega
      have Zo:Hid (iL s i=mX s j (bs++[s[k]]) (k+2) (fM (s.data.toList.drop (k+2)))):=htx.out.trans (WO h2 hc h3)
      clear hc htx h3 hcv h3' RG h2
      go_wp2_with fail
      go_quiet (fail)
      revert nq;intro nq1
      go_wp2_with fail
      go_quiet (fail)
      revert nq;intro xU
      go_wp2_with fail
      go_quiet (fail)
      revert nq;intro nq3
      have RP:=ah ((((RR.out.drewN (nq1+xU)).setAt k1).drewN nq3).setAt (k1+1));have KP:=ah ((((KK.out.drewN (nq1+xU)).setCell (p:=⟨N,1,none⟩) (.inl rfl) (.int .i64 (k1:Int))).drewN nq3).setCell (p:=⟨N,1,none⟩) (.inl rfl) (.int .i64 ((k1+1:Nat):Int)))
      have WP:=ah ((((((WW.out.kept (Kept.drewN' _ (nq1+xU)) (fun _ _ h=>h)).setCell (p:=⟨N,1,none⟩) (fun h=>by have:=(WW.out.lt N h).1;omega) (.int .i64 (k1:Int)))).kept (Kept.drewN' _ nq3) (fun _ _ h=>h)).setCell (p:=⟨N,1,none⟩) (fun h=>by have:=(WW.out.lt N h).1;omega) (.int .i64 ((k1+1:Nat):Int))).alloc (.cells #[.int .u8 (s[k].toNat:Int)] 5))
      have hbs:(bs++[s[k]]).length=bs.length+1:=by simp
      have hcs:rV bs++[.int .u8 (s[k].toNat:Int)]=rV (bs++[s[k]]):=by simp [rV]
      have Pg:=ah hbs;have HCS:=ah hcs;clear hbs hcs
      go_wp2_with (at_builtin;go_loud (refine kQ _ rfl (.tmp 80) (.tmp 82) 48 48 rfl w.heap.size 5 i0 (.int .u8 0) 1 1 Tryz.underlying48 hi0 hz0 hz1 hz2 rfl (.slice a bs.length c) bs.length (rV bs) rfl WP.out _ 1 [.int .u8 (s[k].toNat:Int)] rfl (Src.ofSlice _ Tryz.underlying48 _ _ _ _ rfl (World.news_of_block (fr:=(0,0)) (cs:=#[.int .u8 (s[k].toNat:Int)]) (dK (by simp))) (by intro u hu;simp at hu;subst hu;rfl)) (by unfold maxLen;omega) (by omega) (by have:=KP.out.size;simp at this⊢;omega) ?_);intro a3 c3 w3 hW3 hg3 ho3)
      rw [HCS.out] at hW3
      have hlow:∀g,(Value.slice a bs.length c).ownBlock=some g→w.heap.size≤g:=fun g hg=>(WW.out.lt g hg).1
      have K3:Hid (Kept (· = N) w w3):=(KP.out.alloc _).grown hg3 fun x hx=>.inr (hlow x hx)
      have R3:Hid (fB N W s (k1+1) d w3):=RP.out.kept (((Kept.refl _ _).alloc _).grown (X:=fun x=>w.heap.size≤x) hg3 fun x hx=>.inl (hlow x hx)) (by omega) (by omega)
      have W3:=ah hW3;have WQ:Hid (iL s i=mX s j (bs++[s[k]]) (k1+1) (fM (s.data.toList.drop (k1+1)))):=by rw [show k1+1=k+2 by omega];exact Zo.out
      clear hW3 hg3 ho3 hlow
      go_wp2_with fail
      go_roundg (s.size-(k1+1))
      case measure=>omega
      case rel=>exact ⟨k1+1,bs++[s[k]],a3,c3,by omega,by omega,rfl,by rw [Pg.out];omega,by rw [Pg.out],by rw [Pg.out];exact W3.out,WQ.out,R3.out,K3.out⟩
     ·have fin:Hid (∀w',fB N W s (k+1) d w'→Kept (· = N) w w'→dn N W s d (iL s i) yL w (.returned (.tuple #[.string ⟨bs.toArray⟩,.int .i64 j])) w'):=by
       intro w' h1 h2;unfold dn;rw [htx.out,Zn hlt hc (fun h e=>hd ⟨h,e⟩)];exact ⟨h2,_,rfl,rfl,h1⟩
      have fin2:Hid (∀w',fB N W s k1 d w'→Kept (· = N) w w'→dn N W s d (iL s i) yL w (.returned (.tuple #[.string ⟨bs.toArray⟩,.int .i64 j])) w'):=by rw [RG];exact fin
      have RP:=ah (fun n m=>((RR.out.drewN n).setAt k1).drewN m);have KP:=ah (fun n m=>((KK.out.drewN n).setCell (p:=⟨N,1,none⟩) (.inl rfl) (.int .i64 (k1:Int))).drewN m)
      by_cases h2:k+1<s.size
      ·have hl1:k1<s.size:=by omega
       have h3':s[k1].toNat≠39:=by simp only [RG];exact fun e=>hd ⟨h2,e⟩
       have g3:((k1:Int)==(s.size:Int))=false:=by simp;omega
       have g4:((s[k1].toNat:Int) != 39)=true:=by simp;omega
       have bi2:(k1:Int)<(s.size:Int):=by omega
       clear hc htx hd h3' RG h2
       go_wp2_with fail
       go_quiet (fail)
       revert nq;intro nq1
       go_wp2_with fail
       go_quiet (fail)
       revert nq;intro xU
       go_wp2_with fail
       go_quiet (fail)
       go_wp2_with fail
       go_ret2
       exact fin2.out _ (RP.out _ _) (KP.out _ _)
      ·have g3:((k1:Int)==(s.size:Int))=true:=by simp;omega
       clear hc htx hd RG
       go_wp2_with fail
       go_quiet (fail)
       revert nq;intro nq1
       go_wp2_with fail
       go_quiet (fail)
       revert nq;intro xU
       go_wp2_with fail
       go_quiet (fail)
       go_wp2_with fail
       go_ret2
       exact fin2.out _ (RP.out _ _) (KP.out _ _)
    ·have g2:((s[k].toNat:Int)==39)=false:=by simp;omega
     have Zo:Hid (iL s i=mX s j (bs++[s[k]]) (k+1) (fM (s.data.toList.drop (k+1)))):=htx.out.trans (Zm hlt hc)
     clear hc htx
     go_wp2_with fail
     go_quiet (fail)
     revert nq;intro nq1
     go_wp2_with fail
     go_quiet (fail)
     revert nq;intro xU
     have RP:=ah ((RR.out.drewN (nq1+xU)).setAt (k+1));have KP:=ah ((KK.out.drewN (nq1+xU)).setCell (p:=⟨N,1,none⟩) (.inl rfl) (.int .i64 ((k+1:Nat):Int)))
     have WP:=ah (((WW.out.kept (Kept.drewN' _ (nq1+xU)) (fun _ _ h=>h)).setCell (p:=⟨N,1,none⟩) (fun h=>by have:=(WW.out.lt N h).1;omega) (.int .i64 ((k+1:Nat):Int))).alloc (.cells #[.int .u8 (s[k].toNat:Int)] 5))
     have hbs:(bs++[s[k]]).length=bs.length+1:=by simp
     have hcs:rV bs++[.int .u8 (s[k].toNat:Int)]=rV (bs++[s[k]]):=by simp [rV]
     have Pg:=ah hbs;have HCS:=ah hcs;clear hbs hcs
     go_wp2_with (at_builtin;go_loud (refine kQ _ rfl (.tmp 80) (.tmp 82) 48 48 rfl w.heap.size 5 i0 (.int .u8 0) 1 1 Tryz.underlying48 hi0 hz0 hz1 hz2 rfl (.slice a bs.length c) bs.length (rV bs) rfl WP.out _ 1 [.int .u8 (s[k].toNat:Int)] rfl (Src.ofSlice _ Tryz.underlying48 _ _ _ _ rfl (World.news_of_block (fr:=(0,0)) (cs:=#[.int .u8 (s[k].toNat:Int)]) (dK (by simp))) (by intro u hu;simp at hu;subst hu;rfl)) (by unfold maxLen;omega) (by omega) (by have:=KP.out.size;simp at this⊢;omega) ?_);intro a3 c3 w3 hW3 hg3 ho3)
     rw [HCS.out] at hW3
     have hlow:∀g,(Value.slice a bs.length c).ownBlock=some g→w.heap.size≤g:=fun g hg=>(WW.out.lt g hg).1
     have K3:Hid (Kept (· = N) w w3):=(KP.out.alloc _).grown hg3 fun x hx=>.inr (hlow x hx)
     have R3:Hid (fB N W s (k+1) d w3):=RP.out.kept (((Kept.refl _ _).alloc _).grown (X:=fun x=>w.heap.size≤x) hg3 fun x hx=>.inl (hlow x hx)) (by omega) (by omega)
     have W3:=ah hW3;have WQ:Hid _:=Zo.out
     clear hW3 hg3 ho3 hlow
     go_wp2_with fail
     go_roundg (s.size-(k+1))
     case measure=>omega
     case rel=>exact ⟨k+1,bs++[s[k]],a3,c3,by omega,by omega,rfl,by rw [Pg.out];omega,by rw [Pg.out],by rw [Pg.out];exact W3.out,WQ.out,R3.out,K3.out⟩
   ·have g1:((k:Int)==(s.size:Int))=true:=by simp;omega
    have e2:Hid (iL s i=.error (2,k)):=by unfold Hid;rw [htx.out,abt (by omega)];rw [show s.size=k by omega]
    have fin:Hid (∀e w',Threw (2,k) e→Kept (· = N) w w'→dn N W s d (iL s i) yL w e w'):=by intro e w' h h2;unfold dn;rw [e2.out];exact ⟨h2,h⟩
    go_wp2_with fail
    go_quiet (fail)
    go_wp2_with fail
    refine (jB _ 2 k _).mono ?_
    rintro e w2 ⟨rfl,rfl⟩
    go_wp2_with fail
    exact ⟨rfl,fin.out _ _ rfl (KK.out.drewN _)⟩
end Go.Proofs.YtefjbnhpjdhjmaaGreatDoor
