/-  -/
import Derived.Test.YtefjbnhpjdhjmaaGreatDoorPs16
namespace Go.Proofs.YtefjbnhpjdhjmaaGreatDoor
set_option linter.all false
open Go.RowKit
set_option maxRecDepth 100000
set_option maxHeartbeats 8000000
theorem Kept.Fp {w w':World} (b:Below w.heap.size w w'):Kept aF w w':=⟨b.os,b.tape,b.output,b.size,fun k hk _=>b.block k hk⟩
theorem aaB {x:aj} (h:0<x.size):x.data.toList.head?=some x[0]:=by
 obtain ⟨⟨l⟩⟩:=x
 cases l with
 | nil=>simp [ByteArray.size] at h
 | cons c r=>rfl
theorem VH {t:aC} {r:List aC} (h:0<t.text.size) (h1:1<t.text.size) (h2:t.text[0].toNat=48):Ce t r=.error (2,t.at_):=by
 unfold Ce;rw [if_pos ⟨h1,by rw [aaB h];congr 1;exact UInt8.toNat_inj.1 h2⟩]
theorem Ll {t:aC} {r:List aC} (h:0<t.text.size) (h1:¬(1<t.text.size∧t.text[0].toNat=48)):Ce t r=if 9223372036854775807<qQ t.text.data.toList then .error (3,t.at_) else .ok (.mk 2 E0 (qQ t.text.data.toList) E0 [],r):=by
 unfold Ce;rw [if_neg (fun ⟨a,b⟩=>h1 ⟨a,by rw [aaB h] at b;simp only [Option.some.injEq] at b;rw [b];rfl⟩)]
theorem VI {N T en d:Nat} {ex pr:List aC→bK aA} {t:aC} {r:List aC} {w:World} (h:fE N T en (t::r) d w) (hk:t.kind=2):Calls Tryz.prog 119 #[.pointer (some ⟨N,0,none⟩)] w (XQ N T en d (bP ex pr en (t::r)) w):=by
 have er:Hid (bP ex pr en (t::r)=Ce t r):=by unfold Hid bP;rw [qE (by omega),qE (by omega)];simp only [fP,hk,if_true,if_false,Bool.false_eq_true,show ¬((2:Int)=3) by decide]
 have S1:Hid (aJ ⟨#[40]⟩ (t::r)=false):=qE (by omega)
 have S2:Hid (aJ ⟨#[36]⟩ (t::r)=false):=qE (by omega)
 have TK:Hid (fP 2 en (t::r)=.ok (t,r)):=Cc hk
 have HK:=ah hk
 have hgood:t.at_≤1000000∧t.text.size≤1000000∧(jM t.text).2.2≤1000000∧(t.kind=2→t.text.size≠0∧∀c∈t.text.data.toList,48≤c.toNat∧c.toNat≤57)∧(t.kind=1→t.text.size≠0):=by obtain ⟨_,_,_,h⟩:=h;exact h.good t (List.mem_cons_self ..)
 obtain ⟨_,htb,_,hdig,_⟩:=hgood
 obtain ⟨hd0,hd1⟩:=hdig hk
 have HPI:=ah (acC t.text.data.toList (fun e=>hd0 (by rw [ByteArray.size,←Array.length_toList,e];rfl)) hd1)
 have htp:0<t.text.size:=by omega
 clear hd0 hd1 hdig
 obtain ⟨hN,hT,hne,h7⟩:=h.ng
 obtain ⟨w0,hw0⟩:∃w0,w0=w.alloc (.cells #[.int .i64 0,.string ⟨#[]⟩,.int .i64 0,.string ⟨#[]⟩,.slice none 0 0] 24):=⟨_,rfl⟩
 have k0:Kept aF w w0:=by rw [hw0];exact (Kept.refl _ _).alloc _
 obtain ⟨M2,hM2⟩:∃M,M=w.heap.size:=⟨_,rfl⟩
 have Z0:Hid (dO M2 (.int .i64 0) (.string ⟨#[]⟩) (.int .i64 0) (.string ⟨#[]⟩) (.slice none 0 0) w0):=by rw [hw0,hM2];exact ay w _
 have R0:=ah (h.kept k0 (fun h=>h) (fun h=>h))
 have K0:Hid (Kept (· = N) w w0):=k0.more (fun _ h=>h.elim)
 have HW0:=ah hw0;have dG:=ah hM2
 clear k0 hw0 hM2 h hk
 go_enter Tryz.func119, Tryz.ntmps119
 go_upto_region 1 with fail
 rw [←HW0.out,←dG.out]
 go_upto_region 12 with (first
  | (go_at_call 51;(with_reducible refine (iD ⟨#[40]⟩ R0.out S1.out).mono ?_);rintro e w1 ⟨rfl,gY,eX⟩;have R1:=ah gY;have K1:Hid (Kept (· = N) w w1):=K0.out.trans eX;have Z1:=ah (Z0.out.kept eX (by have:=dG.out;omega));clear gY eX)
  | (go_at_call 51;(with_reducible refine (iD ⟨#[36]⟩ R1.out S2.out).mono ?_);rintro e w2 ⟨rfl,lg,iC⟩;have R2:=ah lg;have K2:Hid (Kept (· = N) w w2):=K1.out.trans iC;have Z2:=ah (Z1.out.kept iC (by have:=dG.out;omega));clear lg iC))
 obtain ⟨n2,a2,c2,hP⟩:=R2.out
 obtain ⟨c0,c1,cd,cf⟩:=hP.c0
 have hn:=hP.num
 rw [List.length_cons] at hn
 have h0:0<n2:=by omega
 have h1:(0:Int)<(n2:Int):=by omega
 have z:decide ((0:Int)<(n2:Int))=true:=ak h1
 have z':decide (0<n2)=true:=ak h0
 obtain ⟨o,rfl,t0,t1,t2⟩:=hP.head
 have y:(t.kind==3)=false:=by rw [HK.out];rfl
 have y2:(t.kind==2)=true:=by rw [HK.out];rfl
 clear hn hP cf
 go_upto_region 15 with fail
 clear c0 c1 cd t0 t1 t2 y y2 z z'
 go_upto_region 16 with (go_at_call 77;(refine (vk 2 R2.out).mono ?_);intro e w3 iF;obtain ⟨eP,Ea,lJ⟩:=iF.ok TK.out;unfold D7 at Ea;subst Ea;have R3:=ah lJ;have K3:Hid (Kept (· = N) w w3):=K2.out.trans eP;have Z3:=ah (Z2.out.kept eP (by have:=dG.out;omega));clear lJ eP iF)
 obtain ⟨w4,hw4⟩:∃w4,w4=w3.alloc (.cells #[.int .i64 t.kind,.string t.text,.int .i64 t.at_] 94):=⟨_,rfl⟩
 have T4:Hid (qC w3.heap.size t w4):=by rw [hw4];exact ay w3 _
 have k4:Kept aF w3 w4:=by rw [hw4];exact (Kept.refl _ _).alloc _
 have R4:=ah (R3.out.kept k4 (fun h=>h) (fun h=>h))
 have K4:Hid (Kept (· = N) w w4):=K3.out.trans (k4.more (fun _ h=>h.elim))
 have Z4:=ah (Z3.out.kept k4 (fun h=>h))
 rw [←hw4]
 obtain ⟨M,hM⟩:∃M,M=w3.heap.size:=⟨_,rfl⟩
 rw [←hM] at T4⊢
 clear hw4 k4 hM
 obtain ⟨t0,t1,t2,_⟩:=T4.out.cells
 have bi:(0:Int)<(t.text.size:Int):=by omega
 by_cases h1:1<t.text.size
 ·have d1:decide ((1:Int)<(t.text.size:Int))=true:=ak (by omega)
  have d2:decide (1<t.text.size)=true:=ak h1
  by_cases h2:t.text[0].toNat=48
  ·have y:((t.text[0].toNat:Int)==48)=true:=by rw [h2];rfl
   have rY:Hid (bP ex pr en (t::r)=.error (2,t.at_)):=by unfold Hid;rw [er.out,VH htp h1 h2]
   clear h2 er
   go_wp2_with (go_at_call 53;(refine (fQ _ 2 t.at_ w4).mono ?_);rintro e w6 ⟨rfl,rfl⟩)
   exact ⟨rfl,XQ.thrown K4.out (Kept.refl _ _) rY.out⟩
  ·have y:((t.text[0].toNat:Int)==48)=false:=by simp;omega
   have rY:Hid (bP ex pr en (t::r)=if 9223372036854775807<qQ t.text.data.toList then .error (3,t.at_) else .ok (.mk 2 E0 (qQ t.text.data.toList) E0 [],r)):=by unfold Hid;rw [er.out,Ll htp (fun ⟨_,b⟩=>h2 b)]
   clear h2 er
   go_upto_region 18 with fail
   by_cases hle:qQ t.text.data.toList≤9223372036854775807
   ·have oV:Hid (bP ex pr en (t::r)=.ok (.mk 2 E0 (qQ t.text.data.toList) E0 [],r)):=by unfold Hid;rw [rY.out,if_neg (by omega)]
    have Iy:=ah (HPI.out.1 hle)
    clear hle rY
    go_upto_region 21 with (go_at_call 123;(refine (Tryz.strconv_ParseInt_10_at64_ok t.text (by omega) _ Iy.out w4).mono ?_);rintro e w5 ⟨rfl,NY⟩;have k5:Kept aF w4 w5:=(by rcases NY with rfl|⟨_,rfl⟩;exact Kept.refl _ _;exact Kept.Fp (Lib.bytesWorld_below _ _ _));have R5:=ah (R4.out.kept k5 (fun h=>h) (fun h=>h));have K5:Hid (Kept (· = N) w w5):=K4.out.trans (k5.more (fun _ h=>h.elim));have Z5:=ah (Z4.out.kept k5 (fun h=>h));clear k5 NY)
    obtain ⟨z0,z1,z2,z3,z4,zf⟩:=Z5.out.cells
    have xP:=zf 0;have xQ:=zf 1;have xR:=zf 2;have yA:=zf 3;have yB:=zf 4
    clear zf t0 t1 t2
    go_wp2_with fail
    exact kR 2 rfl rfl (Z5.out.bI _ _ _ _ _) (GZ Z5.out K5.out R5.out dG.out hN hT (by decide) (by decide) oV.out)
   ·have oV:Hid (bP ex pr en (t::r)=.error (3,t.at_)):=by unfold Hid;rw [rY.out,if_pos (by omega)]
    have Iy:=ah (HPI.out.2 (by omega))
    obtain ⟨ev,hev1,hev2⟩:nV w4:=by obtain ⟨_,_,_,h⟩:=R4.out;exact h.rng
    have Rl:=ah hev1;have HE2:=ah hev2
    clear hle rY hev1 hev2
    go_wp2_with (first
     | (go_at_call 123;(refine (Tryz.strconv_ParseInt_10_at64_range t.text (by omega) Iy.out ev w4 Rl.out HE2.out).mono ?_);rintro e w5 ⟨np,rfl,-,-,N9⟩;have k5:=Kept.Fp N9;have K5:Hid (Kept (· = N) w4 w5):=k5.more (fun _ h=>h.elim);have T5:=T4.out.kept k5 (fun h=>h);obtain ⟨u0,u1,u2,_⟩:=T5.cells;clear T5 k5 N9)
     | (go_at_call 53;(refine (fQ _ 3 t.at_ _).mono ?_);rintro e w6 ⟨rfl,rfl⟩))
    exact ⟨rfl,XQ.thrown K4.out K5.out oV.out⟩
 ·have d1:decide ((1:Int)<(t.text.size:Int))=false:=au (by omega)
  have d2:decide (1<t.text.size)=false:=au h1
  have rY:Hid (bP ex pr en (t::r)=if 9223372036854775807<qQ t.text.data.toList then .error (3,t.at_) else .ok (.mk 2 E0 (qQ t.text.data.toList) E0 [],r)):=by unfold Hid;rw [er.out,Ll htp (fun ⟨b,_⟩=>h1 b)]
  clear h1 er
  go_upto_region 18 with fail
  by_cases hle:qQ t.text.data.toList≤9223372036854775807
  ·have oV:Hid (bP ex pr en (t::r)=.ok (.mk 2 E0 (qQ t.text.data.toList) E0 [],r)):=by unfold Hid;rw [rY.out,if_neg (by omega)]
   have Iy:=ah (HPI.out.1 hle)
   clear hle rY
   go_upto_region 21 with (go_at_call 123;(refine (Tryz.strconv_ParseInt_10_at64_ok t.text (by omega) _ Iy.out w4).mono ?_);rintro e w5 ⟨rfl,NY⟩;have k5:Kept aF w4 w5:=(by rcases NY with rfl|⟨_,rfl⟩;exact Kept.refl _ _;exact Kept.Fp (Lib.bytesWorld_below _ _ _));have R5:=ah (R4.out.kept k5 (fun h=>h) (fun h=>h));have K5:Hid (Kept (· = N) w w5):=K4.out.trans (k5.more (fun _ h=>h.elim));have Z5:=ah (Z4.out.kept k5 (fun h=>h));clear k5 NY)
   obtain ⟨z0,z1,z2,z3,z4,zf⟩:=Z5.out.cells
   have xP:=zf 0;have xQ:=zf 1;have xR:=zf 2;have yA:=zf 3;have yB:=zf 4
   clear zf t0 t1 t2
   go_wp2_with fail
   exact kR 2 rfl rfl (Z5.out.bI _ _ _ _ _) (GZ Z5.out K5.out R5.out dG.out hN hT (by decide) (by decide) oV.out)
  ·have oV:Hid (bP ex pr en (t::r)=.error (3,t.at_)):=by unfold Hid;rw [rY.out,if_pos (by omega)]
   have Iy:=ah (HPI.out.2 (by omega))
   obtain ⟨ev,hev1,hev2⟩:nV w4:=by obtain ⟨_,_,_,h⟩:=R4.out;exact h.rng
   have Rl:=ah hev1;have HE2:=ah hev2
   clear hle rY hev1 hev2
   go_wp2_with (first
    | (go_at_call 123;(refine (Tryz.strconv_ParseInt_10_at64_range t.text (by omega) Iy.out ev w4 Rl.out HE2.out).mono ?_);rintro e w5 ⟨np,rfl,-,-,N9⟩;have k5:=Kept.Fp N9;have K5:Hid (Kept (· = N) w4 w5):=k5.more (fun _ h=>h.elim);have T5:=T4.out.kept k5 (fun h=>h);obtain ⟨u0,u1,u2,_⟩:=T5.cells;clear T5 k5 N9)
    | (go_at_call 53;(refine (fQ _ 3 t.at_ _).mono ?_);rintro e w6 ⟨rfl,rfl⟩))
   exact ⟨rfl,XQ.thrown K4.out K5.out oV.out⟩
end Go.Proofs.YtefjbnhpjdhjmaaGreatDoor

namespace Go.Proofs.YtefjbnhpjdhjmaaGreatDoor
set_option linter.all false
open Go.RowKit
theorem vC {k:Int} {en:Nat} {l r:List aC} {t:aC} (h:fP k en l=.ok (t,r)):r.length+1=l.length:=by
 cases l with
 | nil=>cases h
 | cons u v =>
  simp only [fP] at h
  split at h
  ·simp only [Except.ok.injEq,Prod.mk.injEq] at h;obtain ⟨rfl,rfl⟩:=h;rfl
  ·cases h
theorem oI {en:Nat} {l r:List aC} {x:aj} (h:eF en l=.ok (x,r)):r.length+1=l.length:=by
 unfold eF at h
 split at h
 ·cases h
 ·next t r' hh =>
  split at h
  ·cases h
  ·simp only [Except.ok.injEq,Prod.mk.injEq] at h;obtain ⟨rfl,rfl⟩:=h;exact vC hh
theorem jS {x:aj} {l:List aC} (h:aJ x l=true):l.tail.length+1=l.length:=by
 cases l with
 | nil=>cases h
 | cons u v=>rfl
theorem qG {x:aj} {en:Nat} {l r:List aC} (h:eY x en l=.ok r):r.length+1=l.length:=by
 unfold eY at h
 split at h
 ·next hs=>simp only [Except.ok.injEq] at h;subst h;exact jS hs
 ·cases h
theorem Oa {en:Nat} {l r:List aC} {p:aA} (h:nN en l=.ok (p,r)):r.length+1=l.length:=by
 unfold nN at h
 split at h
 ·cases h
 ·next t r' hh =>
  split at h
  ·cases h
  ·simp only [Except.ok.injEq,Prod.mk.injEq] at h;obtain ⟨rfl,rfl⟩:=h;exact vC hh
def qU (f:List aC→bK aA):Prop:=∀l y r,f l=.ok (y,r)→sizeT y+r.length≤l.length
theorem qU.shr {f:List aC→bK aA} (h:qU f):Shr f:=fun l y r hl=>by have:=h l y r hl;omega
theorem FU (k:Int) (x:aA):sizeT (node1 k x)=1+sizeT x:=by simp [node1,sizeT,aO]
theorem Qv (k:Int) (x y:aA):sizeT (node2 k x y)=1+(sizeT x+sizeT y):=by simp [node2,sizeT,aO]
theorem IG (l:List aA) (x:aA):aO (l++[x])=aO l+sizeT x:=by
 induction l with
 | nil=>simp [aO]
 | cons p r ih=>simp only [List.cons_append,aO,ih];omega
theorem Qw {bH:Nat} {sub:List aC→bK aA} (h:qU sub):∀(f:Nat) (x:aA) (l:List aC) (y:aA) (r:List aC),lZ bH sub f x l=.ok (y,r)→sizeT y+r.length≤sizeT x+l.length:=by
 intro f
 induction f with
 | zero=>intro x l y r hc;simp only [lZ,Except.ok.injEq,Prod.mk.injEq] at hc;obtain ⟨rfl,rfl⟩:=hc;omega
 | succ f ih =>
  intro x l y r hc
  rw [lZ] at hc
  split at hc
  ·next ho =>
   split at hc
   ·cases hc
   ·next z r1 hz =>
    have h1:=ih _ _ _ _ hc
    have h2:=h _ _ _ hz
    rw [Qv] at h1
    cases l with
    | nil=>simp [opAt] at ho
    | cons t l2=>simp only [List.tail_cons] at h2;rw [List.length_cons];omega
  ·simp only [Except.ok.injEq,Prod.mk.injEq] at hc;obtain ⟨rfl,rfl⟩:=hc;omega
theorem vF {bH:Nat} {sub:List aC→bK aA} (h:qU sub):qU (mQ bH sub):=by
 intro l y r hl
 unfold mQ at hl
 split at hl
 ·cases hl
 ·next z r1 hz =>
  have h1:=Qw h _ _ _ _ _ hl
  have h2:=h _ _ _ hz
  omega
theorem Ee {un:List aC→bK aA} (h:qU un):qU (Ef un):=vF (vF (vF h))
theorem Tj {ex:List aC→bK aA} {en:Nat} (h:qU ex):∀(f:Nat) (ks:List aA) (l:List aC) (Ed:List aA) (r:List aC),lD ex en f ks l=.ok (Ed,r)→aO Ed+r.length≤aO ks+l.length:=by
 intro f
 induction f with
 | zero=>intro x l y r hc;simp only [lD,Except.ok.injEq,Prod.mk.injEq] at hc;obtain ⟨rfl,rfl⟩:=hc;omega
 | succ f ih =>
  intro ks l Ed r hc
  rw [lD] at hc
  split at hc
  ·cases hc
  ·split at hc
   ·cases hc
   ·next x r1 hx =>
    have h2:=h _ _ _ hx
    split at hc
    ·next hs =>
     simp only [Except.ok.injEq,Prod.mk.injEq] at hc;obtain ⟨rfl,rfl⟩:=hc
     have:=jS hs
     rw [IG];omega
    ·split at hc
     ·cases hc
     ·next r2 hn =>
      have h1:=ih _ _ _ _ hc
      have:=qG hn
      rw [IG] at h1;omega
theorem yH {ex pr:List aC→bK aA} {en:Nat} (he:qU ex) (hp:qU pr):qU (bP ex pr en):=by
 intro l y r hl
 unfold bP at hl
 split at hl
 ·next hs =>
  have:=jS hs
  split at hl
  ·cases hl
  ·next x r1 hx =>
   have h2:=he _ _ _ hx
   split at hl
   ·cases hl
   ·next r2 hn =>
    have:=qG hn
    simp only [Except.ok.injEq,Prod.mk.injEq] at hl;obtain ⟨rfl,rfl⟩:=hl;omega
 ·split at hl
  ·next hs =>
   have:=jS hs
   split at hl
   ·cases hl
   ·next x r1 hx =>
    have h2:=hp _ _ _ hx
    simp only [Except.ok.injEq,Prod.mk.injEq] at hl;obtain ⟨rfl,rfl⟩:=hl;rw [FU];omega
  ·split at hl
   ·next t r1 ht =>
    have:=vC ht
    simp only [Except.ok.injEq,Prod.mk.injEq] at hl;obtain ⟨rfl,rfl⟩:=hl;simp only [sizeT,aO];omega
   ·split at hl
    ·next t r1 ht =>
     have:=vC ht
     unfold Ce at hl
     split at hl
     ·cases hl
     ·split at hl
      ·cases hl
      ·simp only [Except.ok.injEq,Prod.mk.injEq] at hl;obtain ⟨rfl,rfl⟩:=hl;simp only [sizeT,aO];omega
    ·split at hl
     ·cases hl
     ·next nm r1 hn =>
      have:=oI hn
      split at hl
      ·next hs =>
       have:=jS hs
       split at hl
       ·cases hl
       ·next x r2 hx =>
        have h2:=he _ _ _ hx
        split at hl
        ·cases hl
        ·next r3 hn3 =>
         have:=qG hn3
         simp only [Except.ok.injEq,Prod.mk.injEq] at hl;obtain ⟨rfl,rfl⟩:=hl;simp only [sizeT,aO];omega
      ·split at hl
       ·next hs =>
        have:=jS hs
        split at hl
        ·next hs2 =>
         have:=jS hs2
         simp only [Except.ok.injEq,Prod.mk.injEq] at hl;obtain ⟨rfl,rfl⟩:=hl;simp only [sizeT,aO];omega
        ·split at hl
         ·cases hl
         ·next ks r2 hk =>
          have h2:=Tj he _ _ _ _ _ hk
          simp only [Except.ok.injEq,Prod.mk.injEq] at hl;obtain ⟨rfl,rfl⟩:=hl;simp only [sizeT,aO] at *;omega
       ·simp only [Except.ok.injEq,Prod.mk.injEq] at hl;obtain ⟨rfl,rfl⟩:=hl;simp only [sizeT,aO];omega
theorem Ob {un pr:List aC→bK aA} (hu:qU un) (hp:qU pr):qU (ug un pr):=by
 intro l y r hl
 unfold ug at hl
 split at hl
 ·next hs =>
  have:=jS hs
  split at hl
  ·cases hl
  ·next x r1 hx =>
   have h2:=hu _ _ _ hx
   simp only [Except.ok.injEq,Prod.mk.injEq] at hl;obtain ⟨rfl,rfl⟩:=hl;rw [FU];omega
 ·exact hp _ _ _ hl
theorem yI (en:Nat):∀k,qU (jv en k).1∧qU (jv en k).2
 | 0=>by
  have e:qU (fun l=>.error (4,fV en l)):=fun l y r h=>by cases h
  exact ⟨Ob e (yH e e),yH e e⟩
 | k+1=>by
  obtain ⟨h1,h2⟩:=yI en k
  exact ⟨Ob h1 (yH (Ee h1) h2),yH (Ee h1) h2⟩
theorem vZ (en:Nat):∀k,qU (rM en k)
 | 0=>by intro l y r h;rw [rM] at h;cases h
 | k+1=>by intro l y r h;rw [rM] at h;exact Ee (yI en k).1 l y r h
theorem Lm {N T en d:Nat} {ex pr:List aC→bK aA} (HE:GY N T en d ex) (HD:(d=400∧pr=fun l=>.error (4,fV en l))∨(d<400∧JZ N T en (d+1) pr)):JZ N T en d (bP ex pr en):=by
 intro l w h
 cases l with
 | nil=>exact VF h
 | cons t r =>
  cases hs1:aJ (bs [40]) (t::r) with
  | true=>exact VB HE h hs1
  | false =>
   cases hs2:aJ (bs [36]) (t::r) with
   | true =>
    rcases HD with ⟨hd,rfl⟩|⟨hd,HP⟩
    ·exact JX (pr:=fun l=>.error (4,fV en l)) h hd hs2
    ·exact JY hd HP h hs2
   | false =>
    by_cases h3:t.kind=3
    ·exact S9 h h3
    ·by_cases h2:t.kind=2
     ·exact VI h h2
     ·cases hn:eF en (t::r) with
      | error e0=>exact J5 h ⟨h3,h2⟩ hs1 hs2 hn
      | ok x =>
       obtain ⟨nm,r1⟩:=x
       cases hs3:aJ (bs [60]) r1 with
       | true=>exact Td h ⟨h3,h2⟩ hs1 hs2 hn HE hs3
       | false =>
        cases hs4:aJ (bs [40]) r1 with
        | false=>exact Tc h ⟨h3,h2⟩ hs1 hs2 hn hs3 hs4
        | true =>
         cases hs5:aJ (bs [41]) r1.tail with
         | true=>exact Qu h ⟨h3,h2⟩ hs1 hs2 hn hs3 hs4 hs5
         | false=>exact Tf h ⟨h3,h2⟩ hs1 hs2 hn hs3 hs4 HE hs5
theorem Rn {N T en d:Nat} {un pr:List aC→bK aA} (HP:JZ N T en d pr) (HD:(d=400∧un=fun l=>.error (4,fV en l))∨(d<400∧J6 N T en (d+1) un)):J6 N T en d (ug un pr):=by
 intro l w h
 cases hs:aJ (bs [45]) l with
 | false=>exact VJ HP h hs
 | true =>
  rcases HD with ⟨rfl,rfl⟩|⟨hd,HU⟩
  ·exact YT h hs
  ·exact YU hd HU h hs
theorem Oc {N T en d:Nat} {un:List aC→bK aA} (HU:J6 N T en d un) (hm:qU un):Iw N T en d 0 (Ef un) :=
 D9 (by omega) (D9 (by omega) (D9 (by omega) (VK HU) hm.shr) (vF hm).shr) (vF (vF hm)).shr
theorem Oe (N T en:Nat):∀k,k≤400→J6 N T en (400-k) (jv en k).1∧JZ N T en (400-k) (jv en k).2
 | 0,_=>by
  have HE:GY N T en 400 (fun l=>.error (4,fV en l)):=fun l w h=>Tn h
  have HP:=Lm HE (.inl ⟨rfl,rfl⟩)
  exact ⟨Rn HP (.inl ⟨rfl,rfl⟩),HP⟩
 | k+1,hk=>by
  obtain ⟨h1,h2⟩:=Oe N T en k (by omega)
  have e:400-k=400-(k+1)+1:=by omega
  rw [e] at h1 h2
  have HB:=Oc h1 (yI en k).1
  have HE:GY N T en (400-(k+1)) (Ef (jv en k).1):=fun l w h=>IJ (by omega) HB h
  have HP:=Lm HE (.inr ⟨by omega,h2⟩)
  exact ⟨Rn HP (.inr ⟨by omega,h1⟩),HP⟩
theorem Eh (N T en:Nat):GY N T en 0 (rM en 400):=by
 intro l w h
 have HB:=Oc (Oe N T en 399 (by omega)).1 (yI en 399).1
 exact IJ (by omega) HB h
end Go.Proofs.YtefjbnhpjdhjmaaGreatDoor

namespace Go.Proofs.YtefjbnhpjdhjmaaGreatDoor
set_option linter.all false
open Go.RowKit
set_option maxRecDepth 100000
set_option maxHeartbeats 8000000
def wW (l:List aj):List Value:=l.map Value.string
theorem YV:(Tryz.prog.info? 9).map (fun i=>(i.zero,i.size,i.bytes))=some (some (.string ⟨#[]⟩),1,16):=by kernel_rfl
theorem VL (l:List aj) (x:aj):wW l++[.string x]=wW (l++[x]):=by simp [wW]
theorem Ae {ops:Array Oper} {rest:List Oper} {o:Oper} {a:Act} {Q:Exit→Act→World→Prop} {w:World} (hgd:o.guard=none) (s x:Operand)
  (ho:o.op=.call {callee:=.builtin .append,args:=#[s,x],argTypes:=#[28,28]})
  (v:Value) (n:Nat) (l:List aj) (t:aj) (hnd:n=l.length) (hs:a.eval s=v) (B:Nat) (hown:cZ w B 9 1 v n (wW l)) (g:Nat) (hx:a.eval x=.slice (some ⟨g,0,none⟩) 1 1)
  (hg:w.heap[g]?=some (.cells #[.string t] 9 (0,0))) (hn:l.length≤1000000) (hB:B≤w.heap.size)
  (h:∀a' c' n' w',Hid (n'=(l++[t]).length)→cZ w' B 9 1 (.slice a' n' c') n' (wW (l++[t]))→Kept (fun b=>B≤b) w w'→wpList Tryz.prog ops Q rest (a.put o.dst (.slice a' n' c')) w') :
  wpList Tryz.prog ops Q (o::rest) a w:=by
 obtain ⟨i0,hi0,hz0,hz1,hz2⟩:=info_parts YV
 have hsr:Src Tryz.prog 1 28 (.slice (some ⟨g,0,none⟩) 1 1) 1 [.string t] w :=
  Src.ofSlice _ Tryz.underlying28 _ _ _ _ rfl (World.news_of_block (fr:=(0,0)) (cs:=#[.string t]) hg) (by intro u hu;simp at hu;subst hu;rfl)
 refine kQ w hgd s x _ _ ho B 9 i0 (.string ⟨#[]⟩) 1 16 Tryz.underlying28 hi0 hz0 hz1 hz2 rfl v n (wW l) hs hown _ 1 _ hx hsr (by unfold maxLen;omega) (by omega) hB ?_
 intro a' c' w' hW hgr _
 rw [VL] at hW
 exact h a' c' _ w' (by unfold Hid;rw [List.length_append,hnd];rfl) hW ((Kept.refl _ w).grown hgr fun k hk=>.inl (hown.lt k hk).1)
def oL (N T en d:Nat) (res:bK (List aj)) (w:World) (e:Ending) (w':World):Prop :=
 Kept (· = N) w w'∧match res with
  | .ok (ns,r)=>(∃a c,e=.returned (.slice a ns.length c)∧cZ w' w.heap.size 9 1 (.slice a ns.length c) ns.length (wW ns))∧fE N T en r d w'
  | .error er=>ni er e
theorem oL.thrown {N T en d:Nat} {r:bK (List aj)} {w w2 w3:World} {er:Er} (K:Kept (· = N) w w2) (k:Kept (· = N) w2 w3) (hr:r=.error er):oL N T en d r w (.panicked [{v:=dV er,recovered:=false}]) w3:=by
 subst hr;exact ⟨K.trans k,rfl⟩
structure IK (N T en d:Nat) (w:World) (ns:List aj) (v:Value) (n:Nat) (l:List aC) (wx:World):Prop where
 num:n=ns.length
 bY:fE N T en l d wx
 win:cZ wx w.heap.size 9 1 v n (wW ns)
 kept:Kept (· = N) w wx
theorem IK.bC {N T en d:Nat} {w wx wy:World} {ns:List aj} {v:Value} {n:Nat} {l l2:List aC} (h:IK N T en d w ns v n l wx) (hN:N<w.heap.size) (hk:Kept (· = N) wx wy) (hr:fE N T en l2 d wy):IK N T en d w ns v n l2 wy :=
 ⟨h.num,hr,h.win.kept hk (fun k hk2 e=>by have:=(h.win.lt k hk2).1;omega),h.kept.trans hk⟩
theorem Og {N T en d:Nat} {l:List aC} {w:World} (h:fE N T en l d w):Calls Tryz.prog 95 #[.pointer (some ⟨N,0,none⟩),.string ⟨#[41]⟩] w (oL N T en d (namesT (some (bs [41])) en 9 [] l) w):=by
 obtain ⟨hN,hT,hne,h7⟩:=h.ng
 have I0:Hid (IK N T en d w [] (.slice none 0 0) 0 l w):=⟨rfl,h,cZ.nil _ _ _ _,Kept.refl _ _⟩
 clear h
 go_enter Tryz.func95, Tryz.ntmps95
 go_wp2_with fail
 go_loopg [5] 9 (fun f x wr=>∃(ns:List aj) (a:Option Addr) (n c:Nat) (l2:List aC),x=.slice a n c∧Hid (ns.length+f=9∧ns.length≤8)∧Hid (IK N T en d w ns (.slice a n c) n l2 wr)∧Hid (namesT (some (bs [41])) en 9 [] l=namesT (some (bs [41])) en f ns l2))
 case atStart=>exact ⟨[],none,0,0,l,rfl,by unfold Hid;decide,I0,rfl⟩
 case round =>
  obtain ⟨ns,a,n,c,l2,rfl,hf,I,hch⟩:=hrel
  have hnn:=I.out.num
  by_cases h8:ns.length=8
  ·have z:((n:Int)==8)=true:=by rw [hnn,h8];rfl
   obtain rfl:gk=1:=by have:=hf.out;omega
   have oV:Hid (namesT (some (bs [41])) en 9 [] l=.error (5,fV en l2)):=by unfold Hid;rw [hch.out,namesT,if_pos h8]
   obtain ⟨n9,a9,c9,r9⟩:=I.out.bY
   have HA:=ah (pq r9)
   clear r9 h8 hf hch hnn
   go_wp2_with (first
    | (go_at_call 54;(refine HA.out.mono ?_);rintro e w' ⟨rfl,aU⟩;obtain rfl:=aU.symm)
    | (go_at_call 53;(refine (fQ _ 5 (fV en l2) wr).mono ?_);rintro e w9 ⟨rfl,rfl⟩))
   exact ⟨rfl,oL.thrown I.out.kept (Kept.refl _ _) oV.out⟩
  ·have z:((n:Int)==8)=false:=by simp;omega
   obtain ⟨g,rfl⟩:∃g,gk=g+1:=by have:=hf.out;exact ⟨gk-1,by omega⟩
   have Ec:Hid (ns.length+g=8∧ns.length<8):=by have:=hf.out;unfold Hid;omega
   cases hu:eF en l2 with
   | error e0 =>
    have oV:Hid (namesT (some (bs [41])) en 9 [] l=.error e0):=by unfold Hid;rw [hch.out,namesT,if_neg h8,hu]
    have HU:=ah hu
    clear h8 hf hch hnn hu
    go_wp2_with (go_at_call 48;(refine (iZ I.out.bY).mono ?_);intro e w3 iF;obtain ⟨eP,rfl⟩:=iF.bad HU.out;have K3:=ah eP;clear eP iF)
    exact ⟨rfl,oL.thrown I.out.kept K3.out oV.out⟩
   | ok y =>
    obtain ⟨nm,r⟩:=y
    have HU:=ah hu
    have oV:Hid (namesT (some (bs [41])) en 9 [] l=if aJ (bs [41]) r=true then .ok (ns++[nm],r.tail) else match eY (bs [44]) en r with | .error er=>.error er | .ok r2=>namesT (some (bs [41])) en g (ns++[nm]) r2):=by unfold Hid;rw [hch.out,namesT,if_neg h8,hu];try rfl
    clear h8 hf hch hnn hu
    go_upto_region 5 with (first
     | (go_at_call 48;(refine (iZ I.out.bY).mono ?_);intro e w3 iF;obtain ⟨eP,rfl,lJ⟩:=iF.ok HU.out;have I3:=ah (I.out.bC hN eP lJ);clear eP lJ iF)
     | (refine Ae rfl _ _ rfl _ n ns nm I3.out.num rfl w.heap.size (I3.out.win.alloc _) _ rfl (ay w3 _) (by have:=Ec.out;omega) (by have:=I3.out.kept.size;simp;omega) ?_;intro a9 c9 n9 w9 Oh Lp hk9;have K9:Kept (fun b=>w.heap.size≤b) w3 w9:=((Kept.refl _ w3).alloc _).trans hk9;have I9:Hid (IK N T en d w (ns++[nm]) (.slice a9 n9 c9) n9 r w9):=⟨Oh.out,I3.out.bY.kept K9 (by omega) (by omega) (by omega),Lp,I3.out.kept.step K9 (fun y hy=>.inr hy)⟩;clear Lp hk9 K9 Oh))
    cases hs:aJ ⟨#[41]⟩ r with
    | true =>
     have zC:Hid (namesT (some (bs [41])) en 9 [] l=.ok (ns++[nm],r.tail)):=by unfold Hid;rw [oV.out];exact if_pos hs
     go_wp2_with (go_at_call 51;(with_reducible refine (nX ⟨#[41]⟩ I9.out.bY hs).mono ?_);rintro e w10 ⟨rfl,rZ,su⟩;have I10:=ah (I9.out.bC hN su rZ);clear rZ su)
     go_ret
     refine ⟨I10.out.kept,?_⟩
     rw [zC.out]
     exact ⟨⟨a9,c9,by rw [←I10.out.num];rfl,by rw [←I10.out.num];exact I10.out.win⟩,I10.out.bY⟩
    | false =>
     cases hv:eY (bs [44]) en r with
     | error e0 =>
      have zC:Hid (namesT (some (bs [41])) en 9 [] l=.error e0):=by unfold Hid;rw [oV.out,if_neg (by rw [show aJ (bs [41]) r=false from hs];decide),hv]
      go_wp2_with (first
       | (go_at_call 51;(with_reducible refine (iD ⟨#[41]⟩ I9.out.bY hs).mono ?_);rintro e w10 ⟨rfl,rZ,su⟩;have I10:=ah (I9.out.bC hN su rZ);clear rZ su)
       | (go_at_call 79;(refine (mJ (bs [44]) I10.out.bY).mono ?_);intro e w8 qB;obtain ⟨rJ,rfl⟩:=qB.bad hv;have K8:=ah rJ;clear rJ qB))
      exact ⟨rfl,oL.thrown I10.out.kept K8.out zC.out⟩
     | ok r2 =>
      have zC:Hid (namesT (some (bs [41])) en 9 [] l=namesT (some (bs [41])) en g (ns++[nm]) r2):=by unfold Hid;rw [oV.out,if_neg (by rw [show aJ (bs [41]) r=false from hs];decide),hv]
      go_wp2_with (first
       | (go_at_call 51;(with_reducible refine (iD ⟨#[41]⟩ I9.out.bY hs).mono ?_);rintro e w10 ⟨rfl,rZ,su⟩;have I10:=ah (I9.out.bC hN su rZ);clear rZ su)
       | (go_at_call 79;(refine (mJ (bs [44]) I10.out.bY).mono ?_);intro e w8 qB;obtain ⟨rJ,rfl,Ad⟩:=qB.ok hv;have I11:=ah (I10.out.bC hN rJ Ad);clear rJ Ad qB))
      go_roundg g
      case measure=>omega
      case rel=>exact ⟨ns++[nm],a9,n9,c9,r2,rfl,by have:=Ec.out;unfold Hid;rw [List.length_append];simp;omega,I11,zC⟩
theorem FV {N T en d:Nat} {l:List aC} {w:World} (h:fE N T en l d w):Calls Tryz.prog 95 #[.pointer (some ⟨N,0,none⟩),.string ⟨#[]⟩] w (oL N T en d (namesT none en 9 [] l) w):=by
 obtain ⟨hN,hT,hne,h7⟩:=h.ng
 have I0:Hid (IK N T en d w [] (.slice none 0 0) 0 l w):=⟨rfl,h,cZ.nil _ _ _ _,Kept.refl _ _⟩
 clear h
 go_enter Tryz.func95, Tryz.ntmps95
 go_wp2_with fail
 go_loopg [5] 9 (fun f x wr=>∃(ns:List aj) (a:Option Addr) (n c:Nat) (l2:List aC),x=.slice a n c∧Hid (ns.length+f=9∧ns.length≤8)∧Hid (IK N T en d w ns (.slice a n c) n l2 wr)∧Hid (namesT none en 9 [] l=namesT none en f ns l2))
 case atStart=>exact ⟨[],none,0,0,l,rfl,by unfold Hid;decide,I0,rfl⟩
 case round =>
  obtain ⟨ns,a,n,c,l2,rfl,hf,I,hch⟩:=hrel
  have hnn:=I.out.num
  by_cases h8:ns.length=8
  ·have z:((n:Int)==8)=true:=by rw [hnn,h8];rfl
   obtain rfl:gk=1:=by have:=hf.out;omega
   have oV:Hid (namesT none en 9 [] l=.error (5,fV en l2)):=by unfold Hid;rw [hch.out,namesT,if_pos h8]
   obtain ⟨n9,a9,c9,r9⟩:=I.out.bY
   have HA:=ah (pq r9)
   clear r9 h8 hf hch hnn
   go_wp2_with (first
    | (go_at_call 54;(refine HA.out.mono ?_);rintro e w' ⟨rfl,aU⟩;obtain rfl:=aU.symm)
    | (go_at_call 53;(refine (fQ _ 5 (fV en l2) wr).mono ?_);rintro e w9 ⟨rfl,rfl⟩))
   exact ⟨rfl,oL.thrown I.out.kept (Kept.refl _ _) oV.out⟩
  ·have z:((n:Int)==8)=false:=by simp;omega
   obtain ⟨g,rfl⟩:∃g,gk=g+1:=by have:=hf.out;exact ⟨gk-1,by omega⟩
   have Ec:Hid (ns.length+g=8∧ns.length<8):=by have:=hf.out;unfold Hid;omega
   cases hu:eF en l2 with
   | error e0 =>
    have oV:Hid (namesT none en 9 [] l=.error e0):=by unfold Hid;rw [hch.out,namesT,if_neg h8,hu]
    have HU:=ah hu
    clear h8 hf hch hnn hu
    go_wp2_with (go_at_call 48;(refine (iZ I.out.bY).mono ?_);intro e w3 iF;obtain ⟨eP,rfl⟩:=iF.bad HU.out;have K3:=ah eP;clear eP iF)
    exact ⟨rfl,oL.thrown I.out.kept K3.out oV.out⟩
   | ok y =>
    obtain ⟨nm,r⟩:=y
    have HU:=ah hu
    have oV:Hid (namesT none en 9 [] l=if aJ (bs [44]) r=true then namesT none en g (ns++[nm]) r.tail else .ok (ns++[nm],r)):=by unfold Hid;rw [hch.out,namesT,if_neg h8,hu];try rfl
    clear h8 hf hch hnn hu
    go_upto_region 5 with (first
     | (go_at_call 48;(refine (iZ I.out.bY).mono ?_);intro e w3 iF;obtain ⟨eP,rfl,lJ⟩:=iF.ok HU.out;have I3:=ah (I.out.bC hN eP lJ);clear eP lJ iF)
     | (refine Ae rfl _ _ rfl _ n ns nm I3.out.num rfl w.heap.size (I3.out.win.alloc _) _ rfl (ay w3 _) (by have:=Ec.out;omega) (by have:=I3.out.kept.size;simp;omega) ?_;intro a9 c9 n9 w9 Oh Lp hk9;have K9:Kept (fun b=>w.heap.size≤b) w3 w9:=((Kept.refl _ w3).alloc _).trans hk9;have I9:Hid (IK N T en d w (ns++[nm]) (.slice a9 n9 c9) n9 r w9):=⟨Oh.out,I3.out.bY.kept K9 (by omega) (by omega) (by omega),Lp,I3.out.kept.step K9 (fun y hy=>.inr hy)⟩;clear Lp hk9 K9 Oh))
    obtain ⟨n9',a9',c9',r9⟩:=I9.out.bY
    have HS:=ah (Aa ⟨#[44]⟩ r9)
    clear r9
    cases hs:aJ ⟨#[44]⟩ r with
    | false =>
     rw [hs] at HS
     have zC:Hid (namesT none en 9 [] l=.ok (ns++[nm],r)):=by unfold Hid;rw [oV.out];exact if_neg (by rw [show aJ (bs [44]) r=false from hs];decide)
     go_wp2_with (go_at_call 49;(refine HS.out.mono ?_);rintro e w' ⟨rfl,aU⟩;obtain rfl:=aU.symm)
     go_ret
     refine ⟨I9.out.kept,?_⟩
     rw [zC.out]
     exact ⟨⟨a9,c9,by rw [←I9.out.num];rfl,by rw [←I9.out.num];exact I9.out.win⟩,I9.out.bY⟩
    | true =>
     rw [hs] at HS
     have zC:Hid (namesT none en 9 [] l=namesT none en g (ns++[nm]) r.tail):=by unfold Hid;rw [oV.out];exact if_pos hs
     have hv:eY (bs [44]) en r=.ok r.tail:=if_pos hs
     go_wp2_with (first
      | (go_at_call 49;(refine HS.out.mono ?_);rintro e w' ⟨rfl,aU⟩;obtain rfl:=aU.symm)
      | (go_at_call 79;(refine (mJ (bs [44]) I9.out.bY).mono ?_);intro e w8 qB;obtain ⟨rJ,rfl,Ad⟩:=qB.ok hv;have I11:=ah (I9.out.bC hN rJ Ad);clear rJ Ad qB))
     go_roundg g
     case measure=>omega
     case rel=>exact ⟨ns++[nm],a9,n9,c9,r.tail,rfl,by have:=Ec.out;unfold Hid;rw [List.length_append];simp;omega,I11,zC⟩
end Go.Proofs.YtefjbnhpjdhjmaaGreatDoor

namespace Go.Proofs.YtefjbnhpjdhjmaaGreatDoor
set_option linter.all false
open Go.RowKit
set_option maxRecDepth 100000
set_option maxHeartbeats 4000000
theorem yQ:Af lQ:=⟨⟨by decide,by decide,by decide⟩,by simp [lQ,sizeT,aO]⟩
theorem acO {lb:aj} (h:lb.size<1000000000):oP {st0 with label:=lb} :=
 by
 have e0:E0.size<1000000000:=by decide
 have en:([]:List aj).length<1000000000:=by decide
 exact ⟨h,yQ,yQ,yQ,e0,e0,⟨en,fun x hx=>by cases hx⟩,⟨en,fun x hx=>by cases hx⟩,e0,e0,e0⟩
theorem dP.free {N:Nat} {a:iM} {s:aQ} {w:World} (h:dP N a s w) (o:Nat):w.frozen? ⟨N,o,none⟩=false:=by
 unfold dP at h;simp [World.frozen?,h]
structure uO (w:World) (S:Nat→Prop) (a:iM) (s:aQ):Prop where
 target:aI w S a.ta s.target.kids
 value:aI w S a.va s.value.kids
 pat:aI w S a.pa s.pat.kids
 params:nM w S a.ma s.params
 locals:nM w S a.la s.locals
 pc:s.params.length≤a.mc
 lc:s.locals.length≤a.lc
theorem uO.ok {w:World} {S:Nat→Prop} {a:iM} {s:aQ} (h:uO w S a s):lT w S a s:=⟨h.target,h.value,h.pat,h.params,h.locals⟩
theorem uO.to {w w':World} {S S':Nat→Prop} {X:Nat→Prop} {a:iM} {s:aQ} (h:uO w S a s) (hk:Kept X w w') (hs:Safe S X w.heap.size) (h':∀b,S b→S' b):uO w' S' a s :=
 ⟨h.target.to hk hs h',h.value.to hk hs h',h.pat.to hk hs h',h.params.to hk hs h',h.locals.to hk hs h',h.pc,h.lc⟩
structure fZ (N T en M:Nat) (s:aQ) (l:List aC) (w:World):Prop where
 bY:fE N T en l 0 w
 st:∃a S,dP M a s w∧uO w S a s∧∀b,S b→M<b∧b<w.heap.size
 sz:oP s
 lt:N<M∧T<M
 few:l.length≤100000
theorem fZ.bC {N T en M:Nat} {s:aQ} {l l2:List aC} {w w2:World} (h:fZ N T en M s l w) (hk:Kept (· = N) w w2) (hr:fE N T en l2 0 w2) (hl:l2.length≤l.length):fZ N T en M s l2 w2:=by
 obtain ⟨h1,⟨a,S,h2,h3,h4⟩,h5,h6,h7⟩:=h
 exact ⟨hr,⟨a,S,h2.kept hk (by omega),h3.to hk (fun b hb=>⟨(h4 b hb).2,by have:=h4 b hb;omega⟩) (fun _ h=>h),fun b hb=>⟨(h4 b hb).1,Nat.lt_of_lt_of_le (h4 b hb).2 hk.size⟩⟩,h5,h6,by omega⟩
theorem fZ.quiet {N T en M:Nat} {s:aQ} {l:List aC} {w w2:World} (h:fZ N T en M s l w) (hk:Kept aF w w2):fZ N T en M s l w2 :=
 h.bC (hk.more fun _ h=>h.elim) (h.bY.kept hk (fun h=>h) (fun h=>h)) (Nat.le_refl _)
theorem fZ.uK {N T en M:Nat} {l:List aC} {w:World} (h:fE N T en l 0 w) (hlt:N<M∧T<M) {w2:World} (hk:Kept (· = M) w w2):fE N T en l 0 w2 :=
 h.kept hk (by omega) (by omega) (by have:=h.ng;omega)
def gq (N T en M:Nat) (res:bK aQ) (w:World) (e:Ending) (w':World):Prop :=
 Kept (fun b=>b=N∨b=M) w w'∧match res with
  | .ok (s,r)=>e=.returned (.tuple #[])∧fZ N T en M s r w'
  | .error er=>ni er e
theorem gq.thrown {N T en M:Nat} {r:bK aQ} {w w2 w3:World} {er:Er} (K:Kept (fun b=>b=N∨b=M) w w2) (k:Kept (· = N) w2 w3) (hr:r=.error er):gq N T en M r w (.panicked [{v:=dV er,recovered:=false}]) w3:=by
 subst hr;exact ⟨K.trans (k.more (fun _ h=>.inl h)),rfl⟩
theorem gq.done {N T en M:Nat} {r:bK aQ} {w w2:World} {s:aQ} {l:List aC} (K:Kept (fun b=>b=N∨b=M) w w2) (h:fZ N T en M s l w2) (hr:r=.ok (s,l)):gq N T en M r w (.returned (.tuple #[])) w2:=by
 subst hr;exact ⟨K,rfl,h⟩
theorem gq.ok {N T en M:Nat} {r:bK aQ} {w w':World} {s:aQ} {l:List aC} {e:Ending} (h:gq N T en M r w e w') (hr:r=.ok (s,l)):Kept (fun b=>b=N∨b=M) w w'∧e=.returned (.tuple #[])∧fZ N T en M s l w':=by
 subst hr;exact ⟨h.1,h.2.1,h.2.2⟩
theorem gq.bad {N T en M:Nat} {r:bK aQ} {w w':World} {er:Er} {e:Ending} (h:gq N T en M r w e w') (hr:r=.error er):Kept (fun b=>b=N∨b=M) w w'∧ni er e:=by
 subst hr;exact h
theorem wX.ok {N T en d:Nat} {l r:List aC} {w w':World} {e:Ending} {x:aj} (h:wX N T en l d w e w') (hr:fF en l=.ok (x,r)):Kept (· = N) w w'∧e=.returned (.string x)∧fE N T en r d w':=by
 unfold wX at h;rw [hr] at h;exact ⟨h.1,h.2.1,h.2.2⟩
theorem wX.bad {N T en d:Nat} {l:List aC} {w w':World} {e:Ending} {er:Er} (h:wX N T en l d w e w') (hr:fF en l=.error er):Kept (· = N) w w'∧ni er e:=by
 unfold wX at h;rw [hr] at h;exact h
theorem Ci.ok {N T en d:Nat} {l r:List aC} {w w':World} {e:Ending} {p:aA} (h:Ci N T en l d w e w') (hr:nN en l=.ok (p,r)) :
  Kept (· = N) w w'∧fE N T en r d w'∧∃S ka cap,e=.returned (.agg #[.int .i64 p.kind,.string p.text,.int .i64 p.n,.string p.name,.slice ka p.kids.length cap])∧(∀b,S b→w.heap.size≤b∧b<w'.heap.size)∧(p.text.size<1000000000∧p.name.size<1000000000∧p.kids.length<1000000000)∧aI w' S ka p.kids:=by
 unfold Ci at h;rw [hr] at h
 obtain ⟨k,⟨v,rfl,S,hS,ka,cap,rfl,hz,hk⟩,hp⟩:=h
 exact ⟨k,hp,S,ka,cap,rfl,hS,hz,hk⟩
theorem Ci.bad {N T en d:Nat} {l:List aC} {w w':World} {e:Ending} {er:Er} (h:Ci N T en l d w e w') (hr:nN en l=.error er):Kept (· = N) w w'∧ni er e:=by
 unfold Ci at h;rw [hr] at h;exact h
theorem oL.ok {N T en d:Nat} {res:bK (List aj)} {ns:List aj} {r:List aC} {w w':World} {e:Ending} (h:oL N T en d res w e w') (hr:res=.ok (ns,r)) :
  Kept (· = N) w w'∧fE N T en r d w'∧∃a c,e=.returned (.slice a ns.length c)∧cZ w' w.heap.size 9 1 (.slice a ns.length c) ns.length (wW ns):=by
 subst hr
 obtain ⟨k,⟨a,c,rfl,hw⟩,hp⟩:=h
 exact ⟨k,hp,a,c,rfl,hw⟩
theorem oL.bad {N T en d:Nat} {res:bK (List aj)} {w w':World} {e:Ending} {er:Er} (h:oL N T en d res w e w') (hr:res=.error er):Kept (· = N) w w'∧ni er e:=by
 subst hr;exact h
theorem dZ {w:World} {M i:Nat} {v:Value}:Kept (· = M) w (w.setCell ⟨M,i,none⟩ v):=(Kept.refl (· = M) w).setCell (p:=⟨M,i,none⟩) (.inl rfl) v
theorem fZ.YW {N T en M:Nat} {s:aQ} {l:List aC} {w:World} (h:fZ N T en M s l w) (x:aj) (hx:x.size<1000000000):fZ N T en M {s with label:=x} l (w.setCell ⟨M,0,none⟩ (.string x)):=by
 obtain ⟨h1,⟨a,S,h2,h3,h4⟩,h5,h6,h7⟩:=h
 have hB:dP M a {s with label:=x} (w.setCell ⟨M,0,none⟩ (.string x)):=by unfold dP at h2⊢;rw [aN h2 _];rfl
 have h3':=h3.to (S':=S) (dZ (w:=w) (M:=M) (i:=0) (v:=.string x)) (fun b hb=>⟨(h4 b hb).2,by have:=h4 b hb;omega⟩) (fun _ h=>h)
 exact ⟨fZ.uK h1 h6 dZ,⟨a,S,hB,⟨h3'.target,h3'.value,h3'.pat,h3'.params,h3'.locals,h3'.pc,h3'.lc⟩,fun b hb=>⟨(h4 b hb).1,Nat.lt_of_lt_of_le (h4 b hb).2 (dZ (w:=w) (M:=M) (i:=0) (v:=.string x)).size⟩⟩,⟨hx,h5.target,h5.value,h5.pat,h5.name,h5.entry,h5.params,h5.locals,h5.always,h5.yes,h5.aW⟩,h6,h7⟩
theorem fZ.setKind {N T en M:Nat} {s:aQ} {l:List aC} {w:World} (h:fZ N T en M s l w) (x:Int):fZ N T en M {s with kind:=x} l (w.setCell ⟨M,1,none⟩ (.int .i64 x)):=by
 obtain ⟨h1,⟨a,S,h2,h3,h4⟩,h5,h6,h7⟩:=h
 have hB:dP M a {s with kind:=x} (w.setCell ⟨M,1,none⟩ (.int .i64 x)):=by unfold dP at h2⊢;rw [aN h2 _];rfl
 have h3':=h3.to (S':=S) (dZ (w:=w) (M:=M) (i:=1) (v:=.int .i64 x)) (fun b hb=>⟨(h4 b hb).2,by have:=h4 b hb;omega⟩) (fun _ h=>h)
 exact ⟨fZ.uK h1 h6 dZ,⟨a,S,hB,⟨h3'.target,h3'.value,h3'.pat,h3'.params,h3'.locals,h3'.pc,h3'.lc⟩,fun b hb=>⟨(h4 b hb).1,Nat.lt_of_lt_of_le (h4 b hb).2 (dZ (w:=w) (M:=M) (i:=1) (v:=.int .i64 x)).size⟩⟩,⟨h5.label,h5.target,h5.value,h5.pat,h5.name,h5.entry,h5.params,h5.locals,h5.always,h5.yes,h5.aW⟩,h6,h7⟩
theorem fZ.setName {N T en M:Nat} {s:aQ} {l:List aC} {w:World} (h:fZ N T en M s l w) (x:aj) (hx:x.size<1000000000):fZ N T en M {s with name:=x} l (w.setCell ⟨M,17,none⟩ (.string x)):=by
 obtain ⟨h1,⟨a,S,h2,h3,h4⟩,h5,h6,h7⟩:=h
 have hB:dP M a {s with name:=x} (w.setCell ⟨M,17,none⟩ (.string x)):=by unfold dP at h2⊢;rw [aN h2 _];rfl
 have h3':=h3.to (S':=S) (dZ (w:=w) (M:=M) (i:=17) (v:=.string x)) (fun b hb=>⟨(h4 b hb).2,by have:=h4 b hb;omega⟩) (fun _ h=>h)
 exact ⟨fZ.uK h1 h6 dZ,⟨a,S,hB,⟨h3'.target,h3'.value,h3'.pat,h3'.params,h3'.locals,h3'.pc,h3'.lc⟩,fun b hb=>⟨(h4 b hb).1,Nat.lt_of_lt_of_le (h4 b hb).2 (dZ (w:=w) (M:=M) (i:=17) (v:=.string x)).size⟩⟩,⟨h5.label,h5.target,h5.value,h5.pat,hx,h5.entry,h5.params,h5.locals,h5.always,h5.yes,h5.aW⟩,h6,h7⟩
theorem fZ.Cj {N T en M:Nat} {s:aQ} {l:List aC} {w:World} (h:fZ N T en M s l w) (x:aj) (hx:x.size<1000000000):fZ N T en M {s with entry:=x} l (w.setCell ⟨M,18,none⟩ (.string x)):=by
 obtain ⟨h1,⟨a,S,h2,h3,h4⟩,h5,h6,h7⟩:=h
 have hB:dP M a {s with entry:=x} (w.setCell ⟨M,18,none⟩ (.string x)):=by unfold dP at h2⊢;rw [aN h2 _];rfl
 have h3':=h3.to (S':=S) (dZ (w:=w) (M:=M) (i:=18) (v:=.string x)) (fun b hb=>⟨(h4 b hb).2,by have:=h4 b hb;omega⟩) (fun _ h=>h)
 exact ⟨fZ.uK h1 h6 dZ,⟨a,S,hB,⟨h3'.target,h3'.value,h3'.pat,h3'.params,h3'.locals,h3'.pc,h3'.lc⟩,fun b hb=>⟨(h4 b hb).1,Nat.lt_of_lt_of_le (h4 b hb).2 (dZ (w:=w) (M:=M) (i:=18) (v:=.string x)).size⟩⟩,⟨h5.label,h5.target,h5.value,h5.pat,h5.name,hx,h5.params,h5.locals,h5.always,h5.yes,h5.aW⟩,h6,h7⟩
theorem fZ.VN {N T en M:Nat} {s:aQ} {l:List aC} {w:World} (h:fZ N T en M s l w) (x:aj) (hx:x.size<1000000000):fZ N T en M {s with always:=x} l (w.setCell ⟨M,21,none⟩ (.string x)):=by
 obtain ⟨h1,⟨a,S,h2,h3,h4⟩,h5,h6,h7⟩:=h
 have hB:dP M a {s with always:=x} (w.setCell ⟨M,21,none⟩ (.string x)):=by unfold dP at h2⊢;rw [aN h2 _];rfl
 have h3':=h3.to (S':=S) (dZ (w:=w) (M:=M) (i:=21) (v:=.string x)) (fun b hb=>⟨(h4 b hb).2,by have:=h4 b hb;omega⟩) (fun _ h=>h)
 exact ⟨fZ.uK h1 h6 dZ,⟨a,S,hB,⟨h3'.target,h3'.value,h3'.pat,h3'.params,h3'.locals,h3'.pc,h3'.lc⟩,fun b hb=>⟨(h4 b hb).1,Nat.lt_of_lt_of_le (h4 b hb).2 (dZ (w:=w) (M:=M) (i:=21) (v:=.string x)).size⟩⟩,⟨h5.label,h5.target,h5.value,h5.pat,h5.name,h5.entry,h5.params,h5.locals,hx,h5.yes,h5.aW⟩,h6,h7⟩
theorem fZ.acP {N T en M:Nat} {s:aQ} {l:List aC} {w:World} (h:fZ N T en M s l w) (x:aj) (hx:x.size<1000000000):fZ N T en M {s with yes:=x} l (w.setCell ⟨M,22,none⟩ (.string x)):=by
 obtain ⟨h1,⟨a,S,h2,h3,h4⟩,h5,h6,h7⟩:=h
 have hB:dP M a {s with yes:=x} (w.setCell ⟨M,22,none⟩ (.string x)):=by unfold dP at h2⊢;rw [aN h2 _];rfl
 have h3':=h3.to (S':=S) (dZ (w:=w) (M:=M) (i:=22) (v:=.string x)) (fun b hb=>⟨(h4 b hb).2,by have:=h4 b hb;omega⟩) (fun _ h=>h)
 exact ⟨fZ.uK h1 h6 dZ,⟨a,S,hB,⟨h3'.target,h3'.value,h3'.pat,h3'.params,h3'.locals,h3'.pc,h3'.lc⟩,fun b hb=>⟨(h4 b hb).1,Nat.lt_of_lt_of_le (h4 b hb).2 (dZ (w:=w) (M:=M) (i:=22) (v:=.string x)).size⟩⟩,⟨h5.label,h5.target,h5.value,h5.pat,h5.name,h5.entry,h5.params,h5.locals,h5.always,hx,h5.aW⟩,h6,h7⟩
theorem fZ.Ro {N T en M:Nat} {s:aQ} {l:List aC} {w:World} (h:fZ N T en M s l w) (x:aj) (hx:x.size<1000000000):fZ N T en M {s with aW:=x} l (w.setCell ⟨M,23,none⟩ (.string x)):=by
 obtain ⟨h1,⟨a,S,h2,h3,h4⟩,h5,h6,h7⟩:=h
 have hB:dP M a {s with aW:=x} (w.setCell ⟨M,23,none⟩ (.string x)):=by unfold dP at h2⊢;rw [aN h2 _];rfl
 have h3':=h3.to (S':=S) (dZ (w:=w) (M:=M) (i:=23) (v:=.string x)) (fun b hb=>⟨(h4 b hb).2,by have:=h4 b hb;omega⟩) (fun _ h=>h)
 exact ⟨fZ.uK h1 h6 dZ,⟨a,S,hB,⟨h3'.target,h3'.value,h3'.pat,h3'.params,h3'.locals,h3'.pc,h3'.lc⟩,fun b hb=>⟨(h4 b hb).1,Nat.lt_of_lt_of_le (h4 b hb).2 (dZ (w:=w) (M:=M) (i:=23) (v:=.string x)).size⟩⟩,⟨h5.label,h5.target,h5.value,h5.pat,h5.name,h5.entry,h5.params,h5.locals,h5.always,h5.yes,hx⟩,h6,h7⟩
theorem cZ.few {w:World} {B e size n c:Nat} {a:Option Addr} {xs:List Value} (h:cZ w B e size (.slice a n c) n xs):n≤c:=by
 rcases h.cells with ⟨_,hn⟩|⟨g,o,cap,hv,_,_,h1,_⟩
 ·omega
 ·simp only [Value.slice.injEq,true_and] at hv
  obtain ⟨_,rfl⟩:=hv
  exact h1
theorem fZ.VO {N T en M:Nat} {s:aQ} {l l2:List aC} {w w2:World} (h:fZ N T en M s l w) (hk:Kept (· = N) w w2) (hr:fE N T en l2 0 w2) (hl:l2.length≤l.length) {ns:List aj} {na:Option Addr} {nc:Nat} (hw:cZ w2 w.heap.size 9 1 (.slice na ns.length nc) ns.length (wW ns)) (hx:ns.length<1000000000∧∀x∈ns,x.size<1000000000) :
  fZ N T en M {s with params:=ns} l2 (w2.setCell ⟨M,19,none⟩ (.slice na ns.length nc)):=by
 have hM:M<w.heap.size:=by obtain ⟨a,S,h2,_⟩:=h.st;exact h2.lt
 obtain ⟨h1,⟨a,S,h2,h3,h4⟩,h5,h6,h7⟩:=h.bC hk hr hl
 have hB:dP M {a with ma:=na,mc:=nc} {s with params:=ns} (w2.setCell ⟨M,19,none⟩ (.slice na ns.length nc)):=by unfold dP at h2⊢;rw [aN h2 _];rfl
 have kM:=dZ (w:=w2) (M:=M) (i:=19) (v:=.slice na ns.length nc)
 have h3':=h3.to (S':=fun b=>S b∨(Value.slice na ns.length nc).ownBlock=some b) kM (fun b hb=>⟨(h4 b hb).2,by have:=h4 b hb;omega⟩) (fun _ h=>.inl h)
 have x3:nM (w2.setCell ⟨M,19,none⟩ (.slice na ns.length nc)) (fun b=>S b∨(Value.slice na ns.length nc).ownBlock=some b) na ns:=by
  intro h0
  rcases hw.cells with ⟨_,hn⟩|⟨g,o,c',hv,hg1,hg2,_,_,hc⟩
  ·omega
  ·simp only [Value.slice.injEq,true_and] at hv
   obtain ⟨rfl,rfl⟩:=hv
   exact ⟨g,o,rfl,.inr rfl,fun j hj=>(kM.cell hg2 (by omega)).trans (hc j _ (by simp [wW,hj])).1⟩
 refine ⟨fZ.uK h1 h6 kM,⟨_,_,hB,⟨h3'.target,h3'.value,h3'.pat,x3,h3'.locals,hw.few,h3'.lc⟩,fun b hb=>?_⟩,⟨h5.label,h5.target,h5.value,h5.pat,h5.name,h5.entry,hx,h5.locals,h5.always,h5.yes,h5.aW⟩,h6,h7⟩
 rcases hb with hb|hb
 ·exact ⟨(h4 b hb).1,Nat.lt_of_lt_of_le (h4 b hb).2 kM.size⟩
 ·have:=hw.lt b hb;have:=kM.size;omega
theorem fZ.Lr {N T en M:Nat} {s:aQ} {l l2:List aC} {w w2:World} (h:fZ N T en M s l w) (hk:Kept (· = N) w w2) (hr:fE N T en l2 0 w2) (hl:l2.length≤l.length) {ns:List aj} {na:Option Addr} {nc:Nat} (hw:cZ w2 w.heap.size 9 1 (.slice na ns.length nc) ns.length (wW ns)) (hx:ns.length<1000000000∧∀x∈ns,x.size<1000000000) :
  fZ N T en M {s with locals:=ns} l2 (w2.setCell ⟨M,20,none⟩ (.slice na ns.length nc)):=by
 have hM:M<w.heap.size:=by obtain ⟨a,S,h2,_⟩:=h.st;exact h2.lt
 obtain ⟨h1,⟨a,S,h2,h3,h4⟩,h5,h6,h7⟩:=h.bC hk hr hl
 have hB:dP M {a with la:=na,lc:=nc} {s with locals:=ns} (w2.setCell ⟨M,20,none⟩ (.slice na ns.length nc)):=by unfold dP at h2⊢;rw [aN h2 _];rfl
 have kM:=dZ (w:=w2) (M:=M) (i:=20) (v:=.slice na ns.length nc)
 have h3':=h3.to (S':=fun b=>S b∨(Value.slice na ns.length nc).ownBlock=some b) kM (fun b hb=>⟨(h4 b hb).2,by have:=h4 b hb;omega⟩) (fun _ h=>.inl h)
 have x3:nM (w2.setCell ⟨M,20,none⟩ (.slice na ns.length nc)) (fun b=>S b∨(Value.slice na ns.length nc).ownBlock=some b) na ns:=by
  intro h0
  rcases hw.cells with ⟨_,hn⟩|⟨g,o,c',hv,hg1,hg2,_,_,hc⟩
  ·omega
  ·simp only [Value.slice.injEq,true_and] at hv
   obtain ⟨rfl,rfl⟩:=hv
   exact ⟨g,o,rfl,.inr rfl,fun j hj=>(kM.cell hg2 (by omega)).trans (hc j _ (by simp [wW,hj])).1⟩
 refine ⟨fZ.uK h1 h6 kM,⟨_,_,hB,⟨h3'.target,h3'.value,h3'.pat,h3'.params,x3,h3'.pc,hw.few⟩,fun b hb=>?_⟩,⟨h5.label,h5.target,h5.value,h5.pat,h5.name,h5.entry,h5.params,hx,h5.always,h5.yes,h5.aW⟩,h6,h7⟩
 rcases hb with hb|hb
 ·exact ⟨(h4 b hb).1,Nat.lt_of_lt_of_le (h4 b hb).2 kM.size⟩
 ·have:=hw.lt b hb;have:=kM.size;omega
theorem fZ.vG {N T en M:Nat} {s:aQ} {l:List aC} {w2:World} (h:fZ N T en M s l w2) {p:aA} {ka:Option Addr} {kc:Nat} {S2:Nat→Prop} (hk2:aI w2 S2 ka p.kids) (hS2:∀b,S2 b→M<b∧b<w2.heap.size) (hz:p.text.size<1000000000∧p.name.size<1000000000∧p.kids.length<1000000000) (hx:sizeT p≤1048576) :
  fZ N T en M {s with target:=p} l (((((w2.setCell ⟨M,2,none⟩ (.int .i64 p.kind)).setCell ⟨M,3,none⟩ (.string p.text)).setCell ⟨M,4,none⟩ (.int .i64 p.n)).setCell ⟨M,5,none⟩ (.string p.name)).setCell ⟨M,6,none⟩ (.slice ka p.kids.length kc)):=by
 obtain ⟨h1,⟨a,S,h2,h3,h4⟩,h5,h6,h7⟩:=h
 have hB:dP M {a with ta:=ka,tc:=kc} {s with target:=p} (((((w2.setCell ⟨M,2,none⟩ (.int .i64 p.kind)).setCell ⟨M,3,none⟩ (.string p.text)).setCell ⟨M,4,none⟩ (.int .i64 p.n)).setCell ⟨M,5,none⟩ (.string p.name)).setCell ⟨M,6,none⟩ (.slice ka p.kids.length kc)):=by unfold dP at h2⊢;rw [aN (aN (aN (aN (aN h2 _) _) _) _) _];rfl
 have kM:Kept (· = M) w2 (((((w2.setCell ⟨M,2,none⟩ (.int .i64 p.kind)).setCell ⟨M,3,none⟩ (.string p.text)).setCell ⟨M,4,none⟩ (.int .i64 p.n)).setCell ⟨M,5,none⟩ (.string p.name)).setCell ⟨M,6,none⟩ (.slice ka p.kids.length kc)):=((((dZ).trans dZ).trans dZ).trans dZ).trans dZ
 have h3':=h3.to (S':=fun b=>S b∨S2 b) kM (fun b hb=>⟨(h4 b hb).2,by have:=h4 b hb;omega⟩) (fun _ h=>.inl h)
 have x3:=hk2.to (S':=fun b=>S b∨S2 b) kM (fun b hb=>⟨(hS2 b hb).2,by have:=hS2 b hb;omega⟩) (fun _ h=>.inr h)
 refine ⟨fZ.uK h1 h6 kM,⟨_,_,hB,⟨x3,h3'.value,h3'.pat,h3'.params,h3'.locals,h3'.pc,h3'.lc⟩,fun b hb=>?_⟩,⟨h5.label,⟨hz,hx⟩,h5.value,h5.pat,h5.name,h5.entry,h5.params,h5.locals,h5.always,h5.yes,h5.aW⟩,h6,h7⟩
 have:=kM.size
 rcases hb with hb|hb
 ·have:=h4 b hb;omega
 ·have:=hS2 b hb;omega
theorem fZ.setValue {N T en M:Nat} {s:aQ} {l:List aC} {w2:World} (h:fZ N T en M s l w2) {p:aA} {ka:Option Addr} {kc:Nat} {S2:Nat→Prop} (hk2:aI w2 S2 ka p.kids) (hS2:∀b,S2 b→M<b∧b<w2.heap.size) (hz:p.text.size<1000000000∧p.name.size<1000000000∧p.kids.length<1000000000) (hx:sizeT p≤1048576) :
  fZ N T en M {s with value:=p} l (((((w2.setCell ⟨M,7,none⟩ (.int .i64 p.kind)).setCell ⟨M,8,none⟩ (.string p.text)).setCell ⟨M,9,none⟩ (.int .i64 p.n)).setCell ⟨M,10,none⟩ (.string p.name)).setCell ⟨M,11,none⟩ (.slice ka p.kids.length kc)):=by
 obtain ⟨h1,⟨a,S,h2,h3,h4⟩,h5,h6,h7⟩:=h
 have hB:dP M {a with va:=ka,vc:=kc} {s with value:=p} (((((w2.setCell ⟨M,7,none⟩ (.int .i64 p.kind)).setCell ⟨M,8,none⟩ (.string p.text)).setCell ⟨M,9,none⟩ (.int .i64 p.n)).setCell ⟨M,10,none⟩ (.string p.name)).setCell ⟨M,11,none⟩ (.slice ka p.kids.length kc)):=by unfold dP at h2⊢;rw [aN (aN (aN (aN (aN h2 _) _) _) _) _];rfl
 have kM:Kept (· = M) w2 (((((w2.setCell ⟨M,7,none⟩ (.int .i64 p.kind)).setCell ⟨M,8,none⟩ (.string p.text)).setCell ⟨M,9,none⟩ (.int .i64 p.n)).setCell ⟨M,10,none⟩ (.string p.name)).setCell ⟨M,11,none⟩ (.slice ka p.kids.length kc)):=((((dZ).trans dZ).trans dZ).trans dZ).trans dZ
 have h3':=h3.to (S':=fun b=>S b∨S2 b) kM (fun b hb=>⟨(h4 b hb).2,by have:=h4 b hb;omega⟩) (fun _ h=>.inl h)
 have x3:=hk2.to (S':=fun b=>S b∨S2 b) kM (fun b hb=>⟨(hS2 b hb).2,by have:=hS2 b hb;omega⟩) (fun _ h=>.inr h)
 refine ⟨fZ.uK h1 h6 kM,⟨_,_,hB,⟨h3'.target,x3,h3'.pat,h3'.params,h3'.locals,h3'.pc,h3'.lc⟩,fun b hb=>?_⟩,⟨h5.label,h5.target,⟨hz,hx⟩,h5.pat,h5.name,h5.entry,h5.params,h5.locals,h5.always,h5.yes,h5.aW⟩,h6,h7⟩
 have:=kM.size
 rcases hb with hb|hb
 ·have:=h4 b hb;omega
 ·have:=hS2 b hb;omega
theorem fZ.VP {N T en M:Nat} {s:aQ} {l:List aC} {w2:World} (h:fZ N T en M s l w2) {p:aA} {ka:Option Addr} {kc:Nat} {S2:Nat→Prop} (hk2:aI w2 S2 ka p.kids) (hS2:∀b,S2 b→M<b∧b<w2.heap.size) (hz:p.text.size<1000000000∧p.name.size<1000000000∧p.kids.length<1000000000) (hx:sizeT p≤1048576) :
  fZ N T en M {s with pat:=p} l (((((w2.setCell ⟨M,12,none⟩ (.int .i64 p.kind)).setCell ⟨M,13,none⟩ (.string p.text)).setCell ⟨M,14,none⟩ (.int .i64 p.n)).setCell ⟨M,15,none⟩ (.string p.name)).setCell ⟨M,16,none⟩ (.slice ka p.kids.length kc)):=by
 obtain ⟨h1,⟨a,S,h2,h3,h4⟩,h5,h6,h7⟩:=h
 have hB:dP M {a with pa:=ka,pc:=kc} {s with pat:=p} (((((w2.setCell ⟨M,12,none⟩ (.int .i64 p.kind)).setCell ⟨M,13,none⟩ (.string p.text)).setCell ⟨M,14,none⟩ (.int .i64 p.n)).setCell ⟨M,15,none⟩ (.string p.name)).setCell ⟨M,16,none⟩ (.slice ka p.kids.length kc)):=by unfold dP at h2⊢;rw [aN (aN (aN (aN (aN h2 _) _) _) _) _];rfl
 have kM:Kept (· = M) w2 (((((w2.setCell ⟨M,12,none⟩ (.int .i64 p.kind)).setCell ⟨M,13,none⟩ (.string p.text)).setCell ⟨M,14,none⟩ (.int .i64 p.n)).setCell ⟨M,15,none⟩ (.string p.name)).setCell ⟨M,16,none⟩ (.slice ka p.kids.length kc)):=((((dZ).trans dZ).trans dZ).trans dZ).trans dZ
 have h3':=h3.to (S':=fun b=>S b∨S2 b) kM (fun b hb=>⟨(h4 b hb).2,by have:=h4 b hb;omega⟩) (fun _ h=>.inl h)
 have x3:=hk2.to (S':=fun b=>S b∨S2 b) kM (fun b hb=>⟨(hS2 b hb).2,by have:=hS2 b hb;omega⟩) (fun _ h=>.inr h)
 refine ⟨fZ.uK h1 h6 kM,⟨_,_,hB,⟨h3'.target,h3'.value,x3,h3'.params,h3'.locals,h3'.pc,h3'.lc⟩,fun b hb=>?_⟩,⟨h5.label,h5.target,h5.value,⟨hz,hx⟩,h5.name,h5.entry,h5.params,h5.locals,h5.always,h5.yes,h5.aW⟩,h6,h7⟩
 have:=kM.size
 rcases hb with hb|hb
 ·have:=h4 b hb;omega
 ·have:=hS2 b hb;omega
theorem Ls (l:List aA) (j:Nat) (hj:j<l.length):pW (l.take (j+1))=max (pW (l.take j)) (jG l[j]):=by
 induction l generalizing j with
 | nil=>simp at hj
 | cons p ps ih =>
  cases j with
  | zero=>simp [pW]
  | succ j=>simp only [List.take_succ_cons,pW,List.getElem_cons_succ];rw [ih j (by simpa using hj)];omega
mutual
theorem G7:∀p:aA,jG p≤sizeT p
 | .mk k t n nm kids=>by rw [jG,sizeT];have:=Ag kids;omega
theorem Ag:∀l:List aA,pW l≤aO l
 | []=>Nat.le_refl _
 | p::ps=>by rw [pW,aO];have:=G7 p;have:=Ag ps;omega
end
theorem Oi (l:List aA) (j:Nat):pW (l.take j)≤aO l:=Nat.le_trans (Ag _) (Tq l j)
theorem Lu:∀(n:Nat) (p:aA) (b o:Nat) (S:Nat→Prop) (w:World),sizeT p≤n→n≤100000000→dL w S b o p→Calls Tryz.prog 55 #[.pointer (some ⟨b,o,none⟩)] w (yj (jG p) w):=by
 intro n
 induction n with
 | zero=>intro p b o S w hn _ _;obtain ⟨k,t,m,nm,kids⟩:=p;simp [sizeT] at hn
 | succ n ih =>
  intro p b o S w hn hmax hp
  obtain ⟨k,t,m,nm,kids⟩:=p
  obtain ⟨hSb,hz,c0,c1,c2,c3,ka,cap,c4,hk⟩:=hp.open
  have hks:aO kids≤n:=by rw [sizeT] at hn;omega
  have hkl:kids.length<1000000000:=hz.2.2
  dsimp only [aA.kids] at c4 hk
  have HIH:=ah ih;have HK:=ah hk;have HKS:=ah hks
  have HD:Hid (jG (.mk k t m nm kids)=pW kids+1):=rfl
  clear hp hz hk hn ih
  go_enter Tryz.func55, Tryz.ntmps55
  go_wp2_with fail
  go_loopw [10,3] (fun x y wr=>∃j:Nat,j≤kids.length∧x=.int .i64 j∧y=.int .i64 ((pW (kids.take j):Nat):Int)∧wr=w) (fun x _ _=>kids.length-(intOf x).toNat)
  case atStart=>exact ⟨0,Nat.zero_le _,rfl,rfl,rfl⟩
  case round =>
   obtain ⟨j,hj,rfl,rfl,rfl⟩:=hrel
   by_cases hlt:j<kids.length
   ·have hb1:decide ((j:Int)<(kids.length:Int))=true:=ak (by omega)
    have hb2:decide (j<kids.length)=true:=ak hlt
    obtain ⟨kb,ko,rfl⟩:=iJ HK.out (by omega)
    have hC:=ah (HIH.out kids[j] kb (ko+j*5) S _ (by have:=nI kids j hlt;have:=HKS.out;omega) (by omega) (iO kids kb ko j hlt HK.out))
    have hmx:((max (pW (kids.take j)) (jG kids[j]):Nat):Int)=((pW (kids.take (j+1)):Nat):Int):=by rw [Ls kids j hlt]
    have afi:max ((pW (kids.take j):Nat):Int) ((jG kids[j]:Nat):Int)=((pW (kids.take (j+1)):Nat):Int):=by rw [Ls kids j hlt];omega
    have hd1:pW (kids.take j)≤100000000:=Nat.le_trans (Oi kids j) (by have:=HKS.out;omega)
    obtain ⟨x,hx⟩:∃x,x=pW (kids.take j):=⟨_,rfl⟩
    obtain ⟨y,hy⟩:∃y,y=jG kids[j]:=⟨_,rfl⟩
    obtain ⟨z,hzz⟩:∃z,z=pW (kids.take (j+1)):=⟨_,rfl⟩
    rw [←hy] at hC
    rw [←hx,←hy,←hzz] at afi
    rw [←hx] at hd1⊢
    have HZZ:=ah hzz
    clear hmx hx hy hzz
    go_wp2_with (go_at_call 55;(refine hC.out.mono ?_);rintro e w' ⟨rfl,aU⟩;obtain rfl:=aU)
    go_roundw
    case measure=>simp [intOf];omega
    case rel=>exact ⟨j+1,by omega,by go_num,by rw [HZZ.out],trivial⟩
   ·obtain rfl:j=kids.length:=by omega
    have hb1:decide ((kids.length:Int)<(kids.length:Int))=false:=au (by omega)
    have hb2:decide (kids.length<kids.length)=false:=au (by omega)
    have hd1:pW kids≤100000000:=Nat.le_trans (Ag kids) (by have:=HKS.out;omega)
    rw [List.take_length]
    go_wp2_with fail
    go_ret
    exact ⟨by rw [HD.out];rfl,rfl⟩
end Go.Proofs.YtefjbnhpjdhjmaaGreatDoor
