/-  -/
import Derived.Test.YtgoijmpahffnhaaGreatDoorPs16
namespace Go.Proofs.YtgoijmpahffnhaaGreatDoor
set_option linter.all false
open Go.RowKit
set_option maxRecDepth 100000
set_option maxHeartbeats 8000000
theorem Kept.Ei {w w':World} (b:Below w.heap.size w w'):Kept aB w w':=⟨b.os,b.tape,b.output,b.size,fun k hk _=>b.block k hk⟩
theorem aaM {x:aj} (h:0<x.size):x.data.toList.head?=some x[0]:=by
 obtain ⟨⟨l⟩⟩:=x
 cases l with
 | nil=>simp [ByteArray.size] at h
 | cons c r=>rfl
theorem WT {t:aC} {r:List aC} (h:0<t.text.size) (h1:1<t.text.size) (h2:t.text[0].toNat=48):FX t r=.error (2,t.at_):=by
 unfold FX;rw [if_pos ⟨h1,by rw [aaM h];congr 1;exact UInt8.toNat_inj.1 h2⟩]
theorem Kv {t:aC} {r:List aC} (h:0<t.text.size) (h1:¬(1<t.text.size∧t.text[0].toNat=48)):FX t r=if 9223372036854775807<rJ t.text.data.toList then .error (3,t.at_) else .ok (.mk 2 E0 (rJ t.text.data.toList) E0 [],r):=by
 unfold FX;rw [if_neg (fun ⟨a,b⟩=>h1 ⟨a,by rw [aaM h] at b;simp only [Option.some.injEq] at b;rw [b];rfl⟩)]
theorem WU {N T en d:Nat} {ex pr:List aC→bD aA} {t:aC} {r:List aC} {w:World} (h:dB N T en (t::r) d w) (hk:t.kind=2):Calls Tryz.prog 235 #[.pointer (some ⟨N,0,none⟩)] w (XQ N T en d (bG ex pr en (t::r)) w):=by
 have er:Hid (bG ex pr en (t::r)=FX t r):=by unfold Hid bG;rw [oI (by omega),oI (by omega)];simp only [fF,hk,if_true,if_false,Bool.false_eq_true,show ¬((2:Int)=3) by decide]
 have S1:Hid (aH ⟨#[40]⟩ (t::r)=false):=oI (by omega)
 have S2:Hid (aH ⟨#[36]⟩ (t::r)=false):=oI (by omega)
 have TK:Hid (fF 2 en (t::r)=.ok (t,r)):=Bf hk
 have HK:=ah hk
 have hgood:t.at_≤1000000∧t.text.size≤1000000∧(mV t.text).2.2≤1000000∧(t.kind=2→t.text.size≠0∧∀c∈t.text.data.toList,48≤c.toNat∧c.toNat≤57)∧(t.kind=1→t.text.size≠0):=by obtain ⟨_,_,_,h⟩:=h;exact h.good t (List.mem_cons_self ..)
 obtain ⟨_,htb,_,hdig,_⟩:=hgood
 obtain ⟨hd0,hd1⟩:=hdig hk
 have HPI:=ah (adX t.text.data.toList (fun e=>hd0 (by rw [ByteArray.size,←Array.length_toList,e];rfl)) hd1)
 have htp:0<t.text.size:=by omega
 clear hd0 hd1 hdig
 obtain ⟨hN,hT,hne,h7⟩:=h.jL
 obtain ⟨w0,hw0⟩:∃w0,w0=w.alloc (.cells #[.int .i64 0,.string ⟨#[]⟩,.int .i64 0,.string ⟨#[]⟩,.slice none 0 0] 54):=⟨_,rfl⟩
 have k0:Kept aB w w0:=by rw [hw0];exact (Kept.refl _ _).alloc _
 obtain ⟨M2,hM2⟩:∃M,M=w.heap.size:=⟨_,rfl⟩
 have Z0:Hid (eH M2 (.int .i64 0) (.string ⟨#[]⟩) (.int .i64 0) (.string ⟨#[]⟩) (.slice none 0 0) w0):=by rw [hw0,hM2];exact ay w _
 have R0:=ah (h.kept k0 (fun h=>h) (fun h=>h))
 have K0:Hid (Kept (· = N) w w0):=k0.more (fun _ h=>h.elim)
 have HW0:=ah hw0;have bF:=ah hM2
 clear k0 hw0 hM2 h hk
 go_enter Tryz.func235, Tryz.ntmps235
 go_upto_region 1 with fail
 rw [←HW0.out,←bF.out]
 go_upto_region 12 with (first
  | (go_at_call 53;(with_reducible refine (fA ⟨#[40]⟩ R0.out S1.out).mono ?_);rintro e w1 ⟨rfl,eF,bY⟩;have R1:=ah eF;have K1:Hid (Kept (· = N) w w1):=K0.out.trans bY;have Z1:=ah (Z0.out.kept bY (by have:=bF.out;omega));clear eF bY)
  | (go_at_call 53;(with_reducible refine (fA ⟨#[36]⟩ R1.out S2.out).mono ?_);rintro e w2 ⟨rfl,jh,eY⟩;have R2:=ah jh;have K2:Hid (Kept (· = N) w w2):=K1.out.trans eY;have Z2:=ah (Z1.out.kept eY (by have:=bF.out;omega));clear jh eY))
 obtain ⟨n2,a2,c2,hP⟩:=R2.out
 obtain ⟨c0,c1,cd,cf⟩:=hP.c0
 have hn:=hP.num
 rw [List.length_cons] at hn
 have h0:0<n2:=by omega
 have h1:(0:Int)<(n2:Int):=by omega
 have z:decide ((0:Int)<(n2:Int))=true:=ak h1
 have z':decide (0<n2)=true:=ak h0
 obtain ⟨o,rfl,t0,t1,t2⟩:=hP.head
 have y:(t.kind==3)=false:=by rw [HK.out];rfl
 have y2:(t.kind==2)=true:=by rw [HK.out];rfl
 clear hn hP cf
 go_upto_region 15 with fail
 clear c0 c1 cd t0 t1 t2 y y2 z z'
 go_upto_region 16 with (go_at_call 86;(refine (ug 2 R2.out).mono ?_);intro e w3 fH;obtain ⟨bH,Dv,jo⟩:=fH.ok TK.out;unfold Dq at Dv;subst Dv;have R3:=ah jo;have K3:Hid (Kept (· = N) w w3):=K2.out.trans bH;have Z3:=ah (Z2.out.kept bH (by have:=bF.out;omega));clear jo bH fH)
 obtain ⟨w4,hw4⟩:∃w4,w4=w3.alloc (.cells #[.int .i64 t.kind,.string t.text,.int .i64 t.at_] 105):=⟨_,rfl⟩
 have T4:Hid (oH w3.heap.size t w4):=by rw [hw4];exact ay w3 _
 have k4:Kept aB w3 w4:=by rw [hw4];exact (Kept.refl _ _).alloc _
 have R4:=ah (R3.out.kept k4 (fun h=>h) (fun h=>h))
 have K4:Hid (Kept (· = N) w w4):=K3.out.trans (k4.more (fun _ h=>h.elim))
 have Z4:=ah (Z3.out.kept k4 (fun h=>h))
 rw [←hw4]
 obtain ⟨M,hM⟩:∃M,M=w3.heap.size:=⟨_,rfl⟩
 rw [←hM] at T4⊢
 clear hw4 k4 hM
 obtain ⟨t0,t1,t2,_⟩:=T4.out.cells
 have bi:(0:Int)<(t.text.size:Int):=by omega
 by_cases h1:1<t.text.size
 ·have d1:decide ((1:Int)<(t.text.size:Int))=true:=ak (by omega)
  have d2:decide (1<t.text.size)=true:=ak h1
  by_cases h2:t.text[0].toNat=48
  ·have y:((t.text[0].toNat:Int)==48)=true:=by rw [h2];rfl
   have qJ:Hid (bG ex pr en (t::r)=.error (2,t.at_)):=by unfold Hid;rw [er.out,WT htp h1 h2]
   clear h2 er
   go_wp2_with (go_at_call 55;(refine (dG _ 2 t.at_ w4).mono ?_);rintro e w6 ⟨rfl,rfl⟩)
   exact ⟨rfl,XQ.thrown K4.out (Kept.refl _ _) qJ.out⟩
  ·have y:((t.text[0].toNat:Int)==48)=false:=by simp;omega
   have qJ:Hid (bG ex pr en (t::r)=if 9223372036854775807<rJ t.text.data.toList then .error (3,t.at_) else .ok (.mk 2 E0 (rJ t.text.data.toList) E0 [],r)):=by unfold Hid;rw [er.out,Kv htp (fun ⟨_,b⟩=>h2 b)]
   clear h2 er
   go_upto_region 18 with fail
   by_cases hle:rJ t.text.data.toList≤9223372036854775807
   ·have lK:Hid (bG ex pr en (t::r)=.ok (.mk 2 E0 (rJ t.text.data.toList) E0 [],r)):=by unfold Hid;rw [qJ.out,if_neg (by omega)]
    have Hg:=ah (HPI.out.1 hle)
    clear hle qJ
    go_upto_region 21 with (go_at_call 238;(refine (Tryz.strconv_ParseInt_10_at64_ok t.text (by omega) _ Hg.out w4).mono ?_);rintro e w5 ⟨rfl,Ol⟩;have k5:Kept aB w4 w5:=(by rcases Ol with rfl|⟨_,rfl⟩;exact Kept.refl _ _;exact Kept.Ei (Lib.bytesWorld_below _ _ _));have R5:=ah (R4.out.kept k5 (fun h=>h) (fun h=>h));have K5:Hid (Kept (· = N) w w5):=K4.out.trans (k5.more (fun _ h=>h.elim));have Z5:=ah (Z4.out.kept k5 (fun h=>h));clear k5 Ol)
    obtain ⟨z0,z1,z2,z3,z4,zf⟩:=Z5.out.cells
    have wK:=zf 0;have wL:=zf 1;have wM:=zf 2;have xw:=zf 3;have xA:=zf 4
    clear zf t0 t1 t2
    go_wp2_with fail
    exact iW 2 rfl rfl (Z5.out.aZ _ _ _ _ _) (FU Z5.out K5.out R5.out bF.out hN hT (by decide) (by decide) lK.out)
   ·have lK:Hid (bG ex pr en (t::r)=.error (3,t.at_)):=by unfold Hid;rw [qJ.out,if_pos (by omega)]
    have Hg:=ah (HPI.out.2 (by omega))
    obtain ⟨ev,hev1,hev2⟩:jC w4:=by obtain ⟨_,_,_,h⟩:=R4.out;exact h.rng
    have Ry:=ah hev1;have HE2:=ah hev2
    clear hle qJ hev1 hev2
    go_wp2_with (first
     | (go_at_call 238;(refine (Tryz.strconv_ParseInt_10_at64_range t.text (by omega) Hg.out ev w4 Ry.out HE2.out).mono ?_);rintro e w5 ⟨np,rfl,-,-,Om⟩;have k5:=Kept.Ei Om;have K5:Hid (Kept (· = N) w4 w5):=k5.more (fun _ h=>h.elim);have T5:=T4.out.kept k5 (fun h=>h);obtain ⟨u0,u1,u2,_⟩:=T5.cells;clear T5 k5 Om)
     | (go_at_call 55;(refine (dG _ 3 t.at_ _).mono ?_);rintro e w6 ⟨rfl,rfl⟩))
    exact ⟨rfl,XQ.thrown K4.out K5.out lK.out⟩
 ·have d1:decide ((1:Int)<(t.text.size:Int))=false:=au (by omega)
  have d2:decide (1<t.text.size)=false:=au h1
  have qJ:Hid (bG ex pr en (t::r)=if 9223372036854775807<rJ t.text.data.toList then .error (3,t.at_) else .ok (.mk 2 E0 (rJ t.text.data.toList) E0 [],r)):=by unfold Hid;rw [er.out,Kv htp (fun ⟨b,_⟩=>h1 b)]
  clear h1 er
  go_upto_region 18 with fail
  by_cases hle:rJ t.text.data.toList≤9223372036854775807
  ·have lK:Hid (bG ex pr en (t::r)=.ok (.mk 2 E0 (rJ t.text.data.toList) E0 [],r)):=by unfold Hid;rw [qJ.out,if_neg (by omega)]
   have Hg:=ah (HPI.out.1 hle)
   clear hle qJ
   go_upto_region 21 with (go_at_call 238;(refine (Tryz.strconv_ParseInt_10_at64_ok t.text (by omega) _ Hg.out w4).mono ?_);rintro e w5 ⟨rfl,Ol⟩;have k5:Kept aB w4 w5:=(by rcases Ol with rfl|⟨_,rfl⟩;exact Kept.refl _ _;exact Kept.Ei (Lib.bytesWorld_below _ _ _));have R5:=ah (R4.out.kept k5 (fun h=>h) (fun h=>h));have K5:Hid (Kept (· = N) w w5):=K4.out.trans (k5.more (fun _ h=>h.elim));have Z5:=ah (Z4.out.kept k5 (fun h=>h));clear k5 Ol)
   obtain ⟨z0,z1,z2,z3,z4,zf⟩:=Z5.out.cells
   have wK:=zf 0;have wL:=zf 1;have wM:=zf 2;have xw:=zf 3;have xA:=zf 4
   clear zf t0 t1 t2
   go_wp2_with fail
   exact iW 2 rfl rfl (Z5.out.aZ _ _ _ _ _) (FU Z5.out K5.out R5.out bF.out hN hT (by decide) (by decide) lK.out)
  ·have lK:Hid (bG ex pr en (t::r)=.error (3,t.at_)):=by unfold Hid;rw [qJ.out,if_pos (by omega)]
   have Hg:=ah (HPI.out.2 (by omega))
   obtain ⟨ev,hev1,hev2⟩:jC w4:=by obtain ⟨_,_,_,h⟩:=R4.out;exact h.rng
   have Ry:=ah hev1;have HE2:=ah hev2
   clear hle qJ hev1 hev2
   go_wp2_with (first
    | (go_at_call 238;(refine (Tryz.strconv_ParseInt_10_at64_range t.text (by omega) Hg.out ev w4 Ry.out HE2.out).mono ?_);rintro e w5 ⟨np,rfl,-,-,Om⟩;have k5:=Kept.Ei Om;have K5:Hid (Kept (· = N) w4 w5):=k5.more (fun _ h=>h.elim);have T5:=T4.out.kept k5 (fun h=>h);obtain ⟨u0,u1,u2,_⟩:=T5.cells;clear T5 k5 Om)
    | (go_at_call 55;(refine (dG _ 3 t.at_ _).mono ?_);rintro e w6 ⟨rfl,rfl⟩))
   exact ⟨rfl,XQ.thrown K4.out K5.out lK.out⟩
end Go.Proofs.YtgoijmpahffnhaaGreatDoor

namespace Go.Proofs.YtgoijmpahffnhaaGreatDoor
set_option linter.all false
open Go.RowKit
theorem uh {k:Int} {en:Nat} {l r:List aC} {t:aC} (h:fF k en l=.ok (t,r)):r.length+1=l.length:=by
 cases l with
 | nil=>cases h
 | cons u v =>
  simp only [fF] at h
  split at h
  ·simp only [Except.ok.injEq,Prod.mk.injEq] at h;obtain ⟨rfl,rfl⟩:=h;rfl
  ·cases h
theorem kY {en:Nat} {l r:List aC} {x:aj} (h:dU en l=.ok (x,r)):r.length+1=l.length:=by
 unfold dU at h
 split at h
 ·cases h
 ·next t r' hh =>
  split at h
  ·cases h
  ·simp only [Except.ok.injEq,Prod.mk.injEq] at h;obtain ⟨rfl,rfl⟩:=h;exact uh hh
theorem iJ {x:aj} {l:List aC} (h:aH x l=true):l.tail.length+1=l.length:=by
 cases l with
 | nil=>cases h
 | cons u v=>rfl
theorem oK {x:aj} {en:Nat} {l r:List aC} (h:eU x en l=.ok r):r.length+1=l.length:=by
 unfold eU at h
 split at h
 ·next hs=>simp only [Except.ok.injEq] at h;subst h;exact iJ hs
 ·cases h
theorem Oo {en:Nat} {l r:List aC} {p:aA} (h:nY en l=.ok (p,r)):r.length+1=l.length:=by
 unfold nY at h
 split at h
 ·cases h
 ·next t r' hh =>
  split at h
  ·cases h
  ·simp only [Except.ok.injEq,Prod.mk.injEq] at h;obtain ⟨rfl,rfl⟩:=h;exact uh hh
def o8 (f:List aC→bD aA):Prop:=∀l y r,f l=.ok (y,r)→sizeT y+r.length≤l.length
theorem o8.shr {f:List aC→bD aA} (h:o8 f):Shr f:=fun l y r hl=>by have:=h l y r hl;omega
theorem ES (k:Int) (x:aA):sizeT (node1 k x)=1+sizeT x:=by simp [node1,sizeT,aT]
theorem Qj (k:Int) (x y:aA):sizeT (node2 k x y)=1+(sizeT x+sizeT y):=by simp [node2,sizeT,aT]
theorem Hq (l:List aA) (x:aA):aT (l++[x])=aT l+sizeT x:=by
 induction l with
 | nil=>simp [aT]
 | cons p r ih=>simp only [List.cons_append,aT,ih];omega
theorem Qk {tH:Nat} {sub:List aC→bD aA} (h:o8 sub):∀(f:Nat) (x:aA) (l:List aC) (y:aA) (r:List aC),pO tH sub f x l=.ok (y,r)→sizeT y+r.length≤sizeT x+l.length:=by
 intro f
 induction f with
 | zero=>intro x l y r hc;simp only [pO,Except.ok.injEq,Prod.mk.injEq] at hc;obtain ⟨rfl,rfl⟩:=hc;omega
 | succ f ih =>
  intro x l y r hc
  rw [pO] at hc
  split at hc
  ·next ho =>
   split at hc
   ·cases hc
   ·next z r1 hz =>
    have h1:=ih _ _ _ _ hc
    have h2:=h _ _ _ hz
    rw [Qj] at h1
    cases l with
    | nil=>simp [opAt] at ho
    | cons t l2=>simp only [List.tail_cons] at h2;rw [List.length_cons];omega
  ·simp only [Except.ok.injEq,Prod.mk.injEq] at hc;obtain ⟨rfl,rfl⟩:=hc;omega
theorem uj {tH:Nat} {sub:List aC→bD aA} (h:o8 sub):o8 (pY tH sub):=by
 intro l y r hl
 unfold pY at hl
 split at hl
 ·cases hl
 ·next z r1 hz =>
  have h1:=Qk h _ _ _ _ _ hl
  have h2:=h _ _ _ hz
  omega
theorem Dz {un:List aC→bD aA} (h:o8 un):o8 (Js un):=uj (uj (uj h))
theorem Ud {ex:List aC→bD aA} {en:Nat} (h:o8 ex):∀(f:Nat) (ks:List aA) (l:List aC) (Dy:List aA) (r:List aC),ng ex en f ks l=.ok (Dy,r)→aT Dy+r.length≤aT ks+l.length:=by
 intro f
 induction f with
 | zero=>intro x l y r hc;simp only [ng,Except.ok.injEq,Prod.mk.injEq] at hc;obtain ⟨rfl,rfl⟩:=hc;omega
 | succ f ih =>
  intro ks l Dy r hc
  rw [ng] at hc
  split at hc
  ·cases hc
  ·split at hc
   ·cases hc
   ·next x r1 hx =>
    have h2:=h _ _ _ hx
    split at hc
    ·next hs =>
     simp only [Except.ok.injEq,Prod.mk.injEq] at hc;obtain ⟨rfl,rfl⟩:=hc
     have:=iJ hs
     rw [Hq];omega
    ·split at hc
     ·cases hc
     ·next r2 hn =>
      have h1:=ih _ _ _ _ hc
      have:=oK hn
      rw [Hq] at h1;omega
theorem xJ {ex pr:List aC→bD aA} {en:Nat} (he:o8 ex) (hp:o8 pr):o8 (bG ex pr en):=by
 intro l y r hl
 unfold bG at hl
 split at hl
 ·next hs =>
  have:=iJ hs
  split at hl
  ·cases hl
  ·next x r1 hx =>
   have h2:=he _ _ _ hx
   split at hl
   ·cases hl
   ·next r2 hn =>
    have:=oK hn
    simp only [Except.ok.injEq,Prod.mk.injEq] at hl;obtain ⟨rfl,rfl⟩:=hl;omega
 ·split at hl
  ·next hs =>
   have:=iJ hs
   split at hl
   ·cases hl
   ·next x r1 hx =>
    have h2:=hp _ _ _ hx
    simp only [Except.ok.injEq,Prod.mk.injEq] at hl;obtain ⟨rfl,rfl⟩:=hl;rw [ES];omega
  ·split at hl
   ·next t r1 ht =>
    have:=uh ht
    simp only [Except.ok.injEq,Prod.mk.injEq] at hl;obtain ⟨rfl,rfl⟩:=hl;simp only [sizeT,aT];omega
   ·split at hl
    ·next t r1 ht =>
     have:=uh ht
     unfold FX at hl
     split at hl
     ·cases hl
     ·split at hl
      ·cases hl
      ·simp only [Except.ok.injEq,Prod.mk.injEq] at hl;obtain ⟨rfl,rfl⟩:=hl;simp only [sizeT,aT];omega
    ·split at hl
     ·cases hl
     ·next nm r1 hn =>
      have:=kY hn
      split at hl
      ·next hs =>
       have:=iJ hs
       split at hl
       ·cases hl
       ·next x r2 hx =>
        have h2:=he _ _ _ hx
        split at hl
        ·cases hl
        ·next r3 hn3 =>
         have:=oK hn3
         simp only [Except.ok.injEq,Prod.mk.injEq] at hl;obtain ⟨rfl,rfl⟩:=hl;simp only [sizeT,aT];omega
      ·split at hl
       ·next hs =>
        have:=iJ hs
        split at hl
        ·next hs2 =>
         have:=iJ hs2
         simp only [Except.ok.injEq,Prod.mk.injEq] at hl;obtain ⟨rfl,rfl⟩:=hl;simp only [sizeT,aT];omega
        ·split at hl
         ·cases hl
         ·next ks r2 hk =>
          have h2:=Ud he _ _ _ _ _ hk
          simp only [Except.ok.injEq,Prod.mk.injEq] at hl;obtain ⟨rfl,rfl⟩:=hl;simp only [sizeT,aT] at *;omega
       ·simp only [Except.ok.injEq,Prod.mk.injEq] at hl;obtain ⟨rfl,rfl⟩:=hl;simp only [sizeT,aT];omega
theorem Oq {un pr:List aC→bD aA} (hu:o8 un) (hp:o8 pr):o8 (zl un pr):=by
 intro l y r hl
 unfold zl at hl
 split at hl
 ·next hs =>
  have:=iJ hs
  split at hl
  ·cases hl
  ·next x r1 hx =>
   have h2:=hu _ _ _ hx
   simp only [Except.ok.injEq,Prod.mk.injEq] at hl;obtain ⟨rfl,rfl⟩:=hl;rw [ES];omega
 ·exact hp _ _ _ hl
theorem xK (en:Nat):∀k,o8 (uN en k).1∧o8 (uN en k).2
 | 0=>by
  have e:o8 (fun l=>.error (4,dP en l)):=fun l y r h=>by cases h
  exact ⟨Oq e (xJ e e),xJ e e⟩
 | k+1=>by
  obtain ⟨h1,h2⟩:=xK en k
  exact ⟨Oq h1 (xJ (Dz h1) h2),xJ (Dz h1) h2⟩
theorem uO (en:Nat):∀k,o8 (wu en k)
 | 0=>by intro l y r h;rw [wu] at h;cases h
 | k+1=>by intro l y r h;rw [wu] at h;exact Dz (xK en k).1 l y r h
theorem Kw {N T en d:Nat} {ex pr:List aC→bD aA} (HE:FT N T en d ex) (HD:(d=400∧pr=fun l=>.error (4,dP en l))∨(d<400∧Jq N T en (d+1) pr)):Jq N T en d (bG ex pr en):=by
 intro l w h
 cases l with
 | nil=>exact WR h
 | cons t r =>
  cases hs1:aH (bs [40]) (t::r) with
  | true=>exact WL HE h hs1
  | false =>
   cases hs2:aH (bs [36]) (t::r) with
   | true =>
    rcases HD with ⟨hd,rfl⟩|⟨hd,HP⟩
    ·exact Jo (pr:=fun l=>.error (4,dP en l)) h hd hs2
    ·exact Jp hd HP h hs2
   | false =>
    by_cases h3:t.kind=3
    ·exact TW h h3
    ·by_cases h2:t.kind=2
     ·exact WU h h2
     ·cases hn:dU en (t::r) with
      | error e0=>exact Jr h ⟨h3,h2⟩ hs1 hs2 hn
      | ok x =>
       obtain ⟨nm,r1⟩:=x
       cases hs3:aH (bs [60]) r1 with
       | true=>exact Ua h ⟨h3,h2⟩ hs1 hs2 hn HE hs3
       | false =>
        cases hs4:aH (bs [40]) r1 with
        | false=>exact TY h ⟨h3,h2⟩ hs1 hs2 hn hs3 hs4
        | true =>
         cases hs5:aH (bs [41]) r1.tail with
         | true=>exact Qi h ⟨h3,h2⟩ hs1 hs2 hn hs3 hs4 hs5
         | false=>exact Ub h ⟨h3,h2⟩ hs1 hs2 hn hs3 hs4 HE hs5
theorem Rz {N T en d:Nat} {un pr:List aC→bD aA} (HP:Jq N T en d pr) (HD:(d=400∧un=fun l=>.error (4,dP en l))∨(d<400∧Jt N T en (d+1) un)):Jt N T en d (zl un pr):=by
 intro l w h
 cases hs:aH (bs [45]) l with
 | false=>exact WX HP h hs
 | true =>
  rcases HD with ⟨rfl,rfl⟩|⟨hd,HU⟩
  ·exact ZI h hs
  ·exact ZJ hd HU h hs
theorem Ot {N T en d:Nat} {un:List aC→bD aA} (HU:Jt N T en d un) (hm:o8 un):G9 N T en d 0 (Js un) :=
 Du (by omega) (Du (by omega) (Du (by omega) (WY HU) hm.shr) (uj hm).shr) (uj (uj hm)).shr
theorem Ou (N T en:Nat):∀k,k≤400→Jt N T en (400-k) (uN en k).1∧Jq N T en (400-k) (uN en k).2
 | 0,_=>by
  have HE:FT N T en 400 (fun l=>.error (4,dP en l)):=fun l w h=>Ue h
  have HP:=Kw HE (.inl ⟨rfl,rfl⟩)
  exact ⟨Rz HP (.inl ⟨rfl,rfl⟩),HP⟩
 | k+1,hk=>by
  obtain ⟨h1,h2⟩:=Ou N T en k (by omega)
  have e:400-k=400-(k+1)+1:=by omega
  rw [e] at h1 h2
  have HB:=Ot h1 (xK en k).1
  have HE:FT N T en (400-(k+1)) (Js (uN en k).1):=fun l w h=>Ht (by omega) HB h
  have HP:=Kw HE (.inr ⟨by omega,h2⟩)
  exact ⟨Rz HP (.inr ⟨by omega,h1⟩),HP⟩
theorem DC (N T en:Nat):FT N T en 0 (wu en 400):=by
 intro l w h
 have HB:=Ot (Ou N T en 399 (by omega)).1 (xK en 399).1
 exact Ht (by omega) HB h
end Go.Proofs.YtgoijmpahffnhaaGreatDoor

namespace Go.Proofs.YtgoijmpahffnhaaGreatDoor
set_option linter.all false
open Go.RowKit
set_option maxRecDepth 100000
set_option maxHeartbeats 8000000
def vM (l:List aj):List Value:=l.map Value.string
theorem ZK:(Tryz.prog.info? 9).map (fun i=>(i.zero,i.size,i.bytes))=some (some (.string ⟨#[]⟩),1,16):=by kernel_rfl
theorem WZ (l:List aj) (x:aj):vM l++[.string x]=vM (l++[x]):=by simp [vM]
theorem zo {ops:Array Oper} {rest:List Oper} {o:Oper} {a:Act} {Q:Exit→Act→World→Prop} {w:World} (hgd:o.guard=none) (s x:Operand)
  (ho:o.op=.call {callee:=.builtin .append,args:=#[s,x],argTypes:=#[22,22]})
  (v:Value) (n:Nat) (l:List aj) (t:aj) (hnd:n=l.length) (hs:a.eval s=v) (B:Nat) (hown:aS w B 9 1 v n (vM l)) (g:Nat) (hx:a.eval x=.slice (some ⟨g,0,none⟩) 1 1)
  (hg:w.heap[g]?=some (.cells #[.string t] 9 (0,0))) (hn:l.length≤1000000) (hB:B≤w.heap.size)
  (h:∀a' c' n' w',Hid (n'=(l++[t]).length)→aS w' B 9 1 (.slice a' n' c') n' (vM (l++[t]))→Kept (fun b=>B≤b) w w'→wpList Tryz.prog ops Q rest (a.put o.dst (.slice a' n' c')) w') :
  wpList Tryz.prog ops Q (o::rest) a w:=by
 obtain ⟨i0,hi0,hz0,hz1,hz2⟩:=info_parts ZK
 have hsr:Src Tryz.prog 1 22 (.slice (some ⟨g,0,none⟩) 1 1) 1 [.string t] w :=
  Src.ofSlice _ Tryz.underlying22 _ _ _ _ rfl (World.news_of_block (fr:=(0,0)) (cs:=#[.string t]) hg) (by intro u hu;simp at hu;subst hu;rfl)
 refine dK w hgd s x _ _ ho B 9 i0 (.string ⟨#[]⟩) 1 16 Tryz.underlying22 hi0 hz0 hz1 hz2 rfl v n (vM l) hs hown _ 1 _ hx hsr (by unfold maxLen;omega) (by omega) hB ?_
 intro a' c' w' hW hgr _
 rw [WZ] at hW
 exact h a' c' _ w' (by unfold Hid;rw [List.length_append,hnd];rfl) hW ((Kept.refl _ w).grown hgr fun k hk=>.inl (hown.lt k hk).1)
def lu (N T en d:Nat) (res:bD (List aj)) (w:World) (e:Ending) (w':World):Prop :=
 Kept (· = N) w w'∧match res with
  | .ok (ns,r)=>(∃a c,e=.returned (.slice a ns.length c)∧aS w' w.heap.size 9 1 (.slice a ns.length c) ns.length (vM ns))∧dB N T en r d w'
  | .error er=>jM er e
theorem lu.thrown {N T en d:Nat} {r:bD (List aj)} {w w2 w3:World} {er:Er} (K:Kept (· = N) w w2) (k:Kept (· = N) w2 w3) (hr:r=.error er):lu N T en d r w (.panicked [{v:=bK er,recovered:=false}]) w3:=by
 subst hr;exact ⟨K.trans k,rfl⟩
structure Hu (N T en d:Nat) (w:World) (ns:List aj) (v:Value) (n:Nat) (l:List aC) (wx:World):Prop where
 num:n=ns.length
 bf:dB N T en l d wx
 win:aS wx w.heap.size 9 1 v n (vM ns)
 kept:Kept (· = N) w wx
theorem Hu.aQ {N T en d:Nat} {w wx wy:World} {ns:List aj} {v:Value} {n:Nat} {l l2:List aC} (h:Hu N T en d w ns v n l wx) (hN:N<w.heap.size) (hk:Kept (· = N) wx wy) (hr:dB N T en l2 d wy):Hu N T en d w ns v n l2 wy :=
 ⟨h.num,hr,h.win.kept hk (fun k hk2 e=>by have:=(h.win.lt k hk2).1;omega),h.kept.trans hk⟩
theorem Ov {N T en d:Nat} {l:List aC} {w:World} (h:dB N T en l d w):Calls Tryz.prog 127 #[.pointer (some ⟨N,0,none⟩),.string ⟨#[41]⟩] w (lu N T en d (namesT (some (bs [41])) en 9 [] l) w):=by
 obtain ⟨hN,hT,hne,h7⟩:=h.jL
 have I0:Hid (Hu N T en d w [] (.slice none 0 0) 0 l w):=⟨rfl,h,aS.nil _ _ _ _,Kept.refl _ _⟩
 clear h
 go_enter Tryz.func127, Tryz.ntmps127
 go_wp2_with fail
 go_loopg [5] 9 (fun f x wr=>∃(ns:List aj) (a:Option Addr) (n c:Nat) (l2:List aC),x=.slice a n c∧Hid (ns.length+f=9∧ns.length≤8)∧Hid (Hu N T en d w ns (.slice a n c) n l2 wr)∧Hid (namesT (some (bs [41])) en 9 [] l=namesT (some (bs [41])) en f ns l2))
 case atStart=>exact ⟨[],none,0,0,l,rfl,by unfold Hid;decide,I0,rfl⟩
 case round =>
  obtain ⟨ns,a,n,c,l2,rfl,hf,I,hch⟩:=hrel
  have hnn:=I.out.num
  by_cases h8:ns.length=8
  ·have z:((n:Int)==8)=true:=by rw [hnn,h8];rfl
   obtain rfl:gk=1:=by have:=hf.out;omega
   have lK:Hid (namesT (some (bs [41])) en 9 [] l=.error (5,dP en l2)):=by unfold Hid;rw [hch.out,namesT,if_pos h8]
   obtain ⟨n9,a9,c9,r9⟩:=I.out.bf
   have HA:=ah (mM r9)
   clear r9 h8 hf hch hnn
   go_wp2_with (first
    | (go_at_call 56;(refine HA.out.mono ?_);rintro e w' ⟨rfl,aK⟩;obtain rfl:=aK.symm)
    | (go_at_call 55;(refine (dG _ 5 (dP en l2) wr).mono ?_);rintro e w9 ⟨rfl,rfl⟩))
   exact ⟨rfl,lu.thrown I.out.kept (Kept.refl _ _) lK.out⟩
  ·have z:((n:Int)==8)=false:=by simp;omega
   obtain ⟨g,rfl⟩:∃g,gk=g+1:=by have:=hf.out;exact ⟨gk-1,by omega⟩
   have Dx:Hid (ns.length+g=8∧ns.length<8):=by have:=hf.out;unfold Hid;omega
   cases hu:dU en l2 with
   | error e0 =>
    have lK:Hid (namesT (some (bs [41])) en 9 [] l=.error e0):=by unfold Hid;rw [hch.out,namesT,if_neg h8,hu]
    have HU:=ah hu
    clear h8 hf hch hnn hu
    go_wp2_with (go_at_call 50;(refine (fZ I.out.bf).mono ?_);intro e w3 fH;obtain ⟨bH,rfl⟩:=fH.bad HU.out;have K3:=ah bH;clear bH fH)
    exact ⟨rfl,lu.thrown I.out.kept K3.out lK.out⟩
   | ok y =>
    obtain ⟨nm,r⟩:=y
    have HU:=ah hu
    have lK:Hid (namesT (some (bs [41])) en 9 [] l=if aH (bs [41]) r=true then .ok (ns++[nm],r.tail) else match eU (bs [44]) en r with | .error er=>.error er | .ok r2=>namesT (some (bs [41])) en g (ns++[nm]) r2):=by unfold Hid;rw [hch.out,namesT,if_neg h8,hu];try rfl
    clear h8 hf hch hnn hu
    go_upto_region 5 with (first
     | (go_at_call 50;(refine (fZ I.out.bf).mono ?_);intro e w3 fH;obtain ⟨bH,rfl,jo⟩:=fH.ok HU.out;have I3:=ah (I.out.aQ hN bH jo);clear bH jo fH)
     | (refine zo rfl _ _ rfl _ n ns nm I3.out.num rfl w.heap.size (I3.out.win.alloc _) _ rfl (ay w3 _) (by have:=Dx.out;omega) (by have:=I3.out.kept.size;simp;omega) ?_;intro a9 c9 n9 w9 Ox Ky hk9;have K9:Kept (fun b=>w.heap.size≤b) w3 w9:=((Kept.refl _ w3).alloc _).trans hk9;have I9:Hid (Hu N T en d w (ns++[nm]) (.slice a9 n9 c9) n9 r w9):=⟨Ox.out,I3.out.bf.kept K9 (by omega) (by omega) (by omega),Ky,I3.out.kept.step K9 (fun y hy=>.inr hy)⟩;clear Ky hk9 K9 Ox))
    cases hs:aH ⟨#[41]⟩ r with
    | true =>
     have yj:Hid (namesT (some (bs [41])) en 9 [] l=.ok (ns++[nm],r.tail)):=by unfold Hid;rw [lK.out];exact if_pos hs
     go_wp2_with (go_at_call 53;(with_reducible refine (jW ⟨#[41]⟩ I9.out.bf hs).mono ?_);rintro e w10 ⟨rfl,qK,qM⟩;have I10:=ah (I9.out.aQ hN qM qK);clear qK qM)
     go_ret
     refine ⟨I10.out.kept,?_⟩
     rw [yj.out]
     exact ⟨⟨a9,c9,by rw [←I10.out.num];rfl,by rw [←I10.out.num];exact I10.out.win⟩,I10.out.bf⟩
    | false =>
     cases hv:eU (bs [44]) en r with
     | error e0 =>
      have yj:Hid (namesT (some (bs [41])) en 9 [] l=.error e0):=by unfold Hid;rw [lK.out,if_neg (by rw [show aH (bs [41]) r=false from hs];decide),hv]
      go_wp2_with (first
       | (go_at_call 53;(with_reducible refine (fA ⟨#[41]⟩ I9.out.bf hs).mono ?_);rintro e w10 ⟨rfl,qK,qM⟩;have I10:=ah (I9.out.aQ hN qM qK);clear qK qM)
       | (go_at_call 88;(refine (jE (bs [44]) I10.out.bf).mono ?_);intro e w8 zi;obtain ⟨qp,rfl⟩:=zi.bad hv;have K8:=ah qp;clear qp zi))
      exact ⟨rfl,lu.thrown I10.out.kept K8.out yj.out⟩
     | ok r2 =>
      have yj:Hid (namesT (some (bs [41])) en 9 [] l=namesT (some (bs [41])) en g (ns++[nm]) r2):=by unfold Hid;rw [lK.out,if_neg (by rw [show aH (bs [41]) r=false from hs];decide),hv]
      go_wp2_with (first
       | (go_at_call 53;(with_reducible refine (fA ⟨#[41]⟩ I9.out.bf hs).mono ?_);rintro e w10 ⟨rfl,qK,qM⟩;have I10:=ah (I9.out.aQ hN qM qK);clear qK qM)
       | (go_at_call 88;(refine (jE (bs [44]) I10.out.bf).mono ?_);intro e w8 zi;obtain ⟨qp,rfl,zk⟩:=zi.ok hv;have I11:=ah (I10.out.aQ hN qp zk);clear qp zk zi))
      go_roundg g
      case measure=>omega
      case rel=>exact ⟨ns++[nm],a9,n9,c9,r2,rfl,by have:=Dx.out;unfold Hid;rw [List.length_append];simp;omega,I11,yj⟩
theorem ET {N T en d:Nat} {l:List aC} {w:World} (h:dB N T en l d w):Calls Tryz.prog 127 #[.pointer (some ⟨N,0,none⟩),.string ⟨#[]⟩] w (lu N T en d (namesT none en 9 [] l) w):=by
 obtain ⟨hN,hT,hne,h7⟩:=h.jL
 have I0:Hid (Hu N T en d w [] (.slice none 0 0) 0 l w):=⟨rfl,h,aS.nil _ _ _ _,Kept.refl _ _⟩
 clear h
 go_enter Tryz.func127, Tryz.ntmps127
 go_wp2_with fail
 go_loopg [5] 9 (fun f x wr=>∃(ns:List aj) (a:Option Addr) (n c:Nat) (l2:List aC),x=.slice a n c∧Hid (ns.length+f=9∧ns.length≤8)∧Hid (Hu N T en d w ns (.slice a n c) n l2 wr)∧Hid (namesT none en 9 [] l=namesT none en f ns l2))
 case atStart=>exact ⟨[],none,0,0,l,rfl,by unfold Hid;decide,I0,rfl⟩
 case round =>
  obtain ⟨ns,a,n,c,l2,rfl,hf,I,hch⟩:=hrel
  have hnn:=I.out.num
  by_cases h8:ns.length=8
  ·have z:((n:Int)==8)=true:=by rw [hnn,h8];rfl
   obtain rfl:gk=1:=by have:=hf.out;omega
   have lK:Hid (namesT none en 9 [] l=.error (5,dP en l2)):=by unfold Hid;rw [hch.out,namesT,if_pos h8]
   obtain ⟨n9,a9,c9,r9⟩:=I.out.bf
   have HA:=ah (mM r9)
   clear r9 h8 hf hch hnn
   go_wp2_with (first
    | (go_at_call 56;(refine HA.out.mono ?_);rintro e w' ⟨rfl,aK⟩;obtain rfl:=aK.symm)
    | (go_at_call 55;(refine (dG _ 5 (dP en l2) wr).mono ?_);rintro e w9 ⟨rfl,rfl⟩))
   exact ⟨rfl,lu.thrown I.out.kept (Kept.refl _ _) lK.out⟩
  ·have z:((n:Int)==8)=false:=by simp;omega
   obtain ⟨g,rfl⟩:∃g,gk=g+1:=by have:=hf.out;exact ⟨gk-1,by omega⟩
   have Dx:Hid (ns.length+g=8∧ns.length<8):=by have:=hf.out;unfold Hid;omega
   cases hu:dU en l2 with
   | error e0 =>
    have lK:Hid (namesT none en 9 [] l=.error e0):=by unfold Hid;rw [hch.out,namesT,if_neg h8,hu]
    have HU:=ah hu
    clear h8 hf hch hnn hu
    go_wp2_with (go_at_call 50;(refine (fZ I.out.bf).mono ?_);intro e w3 fH;obtain ⟨bH,rfl⟩:=fH.bad HU.out;have K3:=ah bH;clear bH fH)
    exact ⟨rfl,lu.thrown I.out.kept K3.out lK.out⟩
   | ok y =>
    obtain ⟨nm,r⟩:=y
    have HU:=ah hu
    have lK:Hid (namesT none en 9 [] l=if aH (bs [44]) r=true then namesT none en g (ns++[nm]) r.tail else .ok (ns++[nm],r)):=by unfold Hid;rw [hch.out,namesT,if_neg h8,hu];try rfl
    clear h8 hf hch hnn hu
    go_upto_region 5 with (first
     | (go_at_call 50;(refine (fZ I.out.bf).mono ?_);intro e w3 fH;obtain ⟨bH,rfl,jo⟩:=fH.ok HU.out;have I3:=ah (I.out.aQ hN bH jo);clear bH jo fH)
     | (refine zo rfl _ _ rfl _ n ns nm I3.out.num rfl w.heap.size (I3.out.win.alloc _) _ rfl (ay w3 _) (by have:=Dx.out;omega) (by have:=I3.out.kept.size;simp;omega) ?_;intro a9 c9 n9 w9 Ox Ky hk9;have K9:Kept (fun b=>w.heap.size≤b) w3 w9:=((Kept.refl _ w3).alloc _).trans hk9;have I9:Hid (Hu N T en d w (ns++[nm]) (.slice a9 n9 c9) n9 r w9):=⟨Ox.out,I3.out.bf.kept K9 (by omega) (by omega) (by omega),Ky,I3.out.kept.step K9 (fun y hy=>.inr hy)⟩;clear Ky hk9 K9 Ox))
    obtain ⟨n9',a9',c9',r9⟩:=I9.out.bf
    have HS:=ah (yY ⟨#[44]⟩ r9)
    clear r9
    cases hs:aH ⟨#[44]⟩ r with
    | false =>
     rw [hs] at HS
     have yj:Hid (namesT none en 9 [] l=.ok (ns++[nm],r)):=by unfold Hid;rw [lK.out];exact if_neg (by rw [show aH (bs [44]) r=false from hs];decide)
     go_wp2_with (go_at_call 51;(refine HS.out.mono ?_);rintro e w' ⟨rfl,aK⟩;obtain rfl:=aK.symm)
     go_ret
     refine ⟨I9.out.kept,?_⟩
     rw [yj.out]
     exact ⟨⟨a9,c9,by rw [←I9.out.num];rfl,by rw [←I9.out.num];exact I9.out.win⟩,I9.out.bf⟩
    | true =>
     rw [hs] at HS
     have yj:Hid (namesT none en 9 [] l=namesT none en g (ns++[nm]) r.tail):=by unfold Hid;rw [lK.out];exact if_pos hs
     have hv:eU (bs [44]) en r=.ok r.tail:=if_pos hs
     go_wp2_with (first
      | (go_at_call 51;(refine HS.out.mono ?_);rintro e w' ⟨rfl,aK⟩;obtain rfl:=aK.symm)
      | (go_at_call 88;(refine (jE (bs [44]) I9.out.bf).mono ?_);intro e w8 zi;obtain ⟨qp,rfl,zk⟩:=zi.ok hv;have I11:=ah (I9.out.aQ hN qp zk);clear qp zk zi))
     go_roundg g
     case measure=>omega
     case rel=>exact ⟨ns++[nm],a9,n9,c9,r.tail,rfl,by have:=Dx.out;unfold Hid;rw [List.length_append];simp;omega,I11,yj⟩
end Go.Proofs.YtgoijmpahffnhaaGreatDoor

namespace Go.Proofs.YtgoijmpahffnhaaGreatDoor
set_option linter.all false
open Go.RowKit
set_option maxRecDepth 100000
set_option maxHeartbeats 4000000
theorem Ju:LU zq:=⟨⟨by decide,by decide,by decide⟩,by simp [zq,sizeT,aT]⟩
theorem aea {lb:aj} (h:lb.size<1000000000):rE {st0 with label:=lb} :=
 by
 have e0:E0.size<1000000000:=by decide
 have en:([]:List aj).length<1000000000:=by decide
 exact ⟨h,Ju,Ju,Ju,e0,e0,⟨en,fun x hx=>by cases hx⟩,⟨en,fun x hx=>by cases hx⟩,e0,e0,e0⟩
theorem bZ.free {N:Nat} {a:iM} {s:aG} {w:World} (h:bZ N a s w) (o:Nat):w.frozen? ⟨N,o,none⟩=false:=by
 unfold bZ at h;simp [World.frozen?,h]
structure tq (w:World) (S:Nat→Prop) (a:iM) (s:aG):Prop where
 target:aI w S a.ta s.target.kids
 value:aI w S a.va s.value.kids
 pat:aI w S a.pa s.pat.kids
 params:bU w S a.ma s.params
 locals:bU w S a.la s.locals
 pc:s.params.length≤a.mc
 lc:s.locals.length≤a.lc
theorem tq.ok {w:World} {S:Nat→Prop} {a:iM} {s:aG} (h:tq w S a s):wR w S a s:=⟨h.target,h.value,h.pat,h.params,h.locals⟩
theorem tq.to {w w':World} {S S':Nat→Prop} {X:Nat→Prop} {a:iM} {s:aG} (h:tq w S a s) (hk:Kept X w w') (hs:Safe S X w.heap.size) (h':∀b,S b→S' b):tq w' S' a s :=
 ⟨h.target.to hk hs h',h.value.to hk hs h',h.pat.to hk hs h',h.params.to hk hs h',h.locals.to hk hs h',h.pc,h.lc⟩
structure dL (N T en M:Nat) (s:aG) (l:List aC) (w:World):Prop where
 bf:dB N T en l 0 w
 st:∃a S,bZ M a s w∧tq w S a s∧∀b,S b→M<b∧b<w.heap.size
 sz:rE s
 lt:N<M∧T<M
 few:l.length≤100000
theorem dL.aQ {N T en M:Nat} {s:aG} {l l2:List aC} {w w2:World} (h:dL N T en M s l w) (hk:Kept (· = N) w w2) (hr:dB N T en l2 0 w2) (hl:l2.length≤l.length):dL N T en M s l2 w2:=by
 obtain ⟨h1,⟨a,S,h2,h3,h4⟩,h5,h6,h7⟩:=h
 exact ⟨hr,⟨a,S,h2.kept hk (by omega),h3.to hk (fun b hb=>⟨(h4 b hb).2,by have:=h4 b hb;omega⟩) (fun _ h=>h),fun b hb=>⟨(h4 b hb).1,Nat.lt_of_lt_of_le (h4 b hb).2 hk.size⟩⟩,h5,h6,by omega⟩
theorem dL.quiet {N T en M:Nat} {s:aG} {l:List aC} {w w2:World} (h:dL N T en M s l w) (hk:Kept aB w w2):dL N T en M s l w2 :=
 h.aQ (hk.more fun _ h=>h.elim) (h.bf.kept hk (fun h=>h) (fun h=>h)) (Nat.le_refl _)
theorem dL.sN {N T en M:Nat} {l:List aC} {w:World} (h:dB N T en l 0 w) (hlt:N<M∧T<M) {w2:World} (hk:Kept (· = M) w w2):dB N T en l 0 w2 :=
 h.kept hk (by omega) (by omega) (by have:=h.jL;omega)
def dM (N T en M:Nat) (res:bD aG) (w:World) (e:Ending) (w':World):Prop :=
 Kept (fun b=>b=N∨b=M) w w'∧match res with
  | .ok (s,r)=>e=.returned (.tuple #[])∧dL N T en M s r w'
  | .error er=>jM er e
theorem dM.thrown {N T en M:Nat} {r:bD aG} {w w2 w3:World} {er:Er} (K:Kept (fun b=>b=N∨b=M) w w2) (k:Kept (· = N) w2 w3) (hr:r=.error er):dM N T en M r w (.panicked [{v:=bK er,recovered:=false}]) w3:=by
 subst hr;exact ⟨K.trans (k.more (fun _ h=>.inl h)),rfl⟩
theorem dM.done {N T en M:Nat} {r:bD aG} {w w2:World} {s:aG} {l:List aC} (K:Kept (fun b=>b=N∨b=M) w w2) (h:dL N T en M s l w2) (hr:r=.ok (s,l)):dM N T en M r w (.returned (.tuple #[])) w2:=by
 subst hr;exact ⟨K,rfl,h⟩
theorem dM.ok {N T en M:Nat} {r:bD aG} {w w':World} {s:aG} {l:List aC} {e:Ending} (h:dM N T en M r w e w') (hr:r=.ok (s,l)):Kept (fun b=>b=N∨b=M) w w'∧e=.returned (.tuple #[])∧dL N T en M s l w':=by
 subst hr;exact ⟨h.1,h.2.1,h.2.2⟩
theorem dM.bad {N T en M:Nat} {r:bD aG} {w w':World} {er:Er} {e:Ending} (h:dM N T en M r w e w') (hr:r=.error er):Kept (fun b=>b=N∨b=M) w w'∧jM er e:=by
 subst hr;exact h
theorem vN.ok {N T en d:Nat} {l r:List aC} {w w':World} {e:Ending} {x:aj} (h:vN N T en l d w e w') (hr:eG en l=.ok (x,r)):Kept (· = N) w w'∧e=.returned (.string x)∧dB N T en r d w':=by
 unfold vN at h;rw [hr] at h;exact ⟨h.1,h.2.1,h.2.2⟩
theorem vN.bad {N T en d:Nat} {l:List aC} {w w':World} {e:Ending} {er:Er} (h:vN N T en l d w e w') (hr:eG en l=.error er):Kept (· = N) w w'∧jM er e:=by
 unfold vN at h;rw [hr] at h;exact h
theorem Bg.ok {N T en d:Nat} {l r:List aC} {w w':World} {e:Ending} {p:aA} (h:Bg N T en l d w e w') (hr:nY en l=.ok (p,r)) :
  Kept (· = N) w w'∧dB N T en r d w'∧∃S ka cap,e=.returned (.agg #[.int .i64 p.kind,.string p.text,.int .i64 p.n,.string p.name,.slice ka p.kids.length cap])∧(∀b,S b→w.heap.size≤b∧b<w'.heap.size)∧(p.text.size<1000000000∧p.name.size<1000000000∧p.kids.length<1000000000)∧aI w' S ka p.kids:=by
 unfold Bg at h;rw [hr] at h
 obtain ⟨k,⟨v,rfl,S,hS,ka,cap,rfl,hz,hk⟩,hp⟩:=h
 exact ⟨k,hp,S,ka,cap,rfl,hS,hz,hk⟩
theorem Bg.bad {N T en d:Nat} {l:List aC} {w w':World} {e:Ending} {er:Er} (h:Bg N T en l d w e w') (hr:nY en l=.error er):Kept (· = N) w w'∧jM er e:=by
 unfold Bg at h;rw [hr] at h;exact h
theorem lu.ok {N T en d:Nat} {res:bD (List aj)} {ns:List aj} {r:List aC} {w w':World} {e:Ending} (h:lu N T en d res w e w') (hr:res=.ok (ns,r)) :
  Kept (· = N) w w'∧dB N T en r d w'∧∃a c,e=.returned (.slice a ns.length c)∧aS w' w.heap.size 9 1 (.slice a ns.length c) ns.length (vM ns):=by
 subst hr
 obtain ⟨k,⟨a,c,rfl,hw⟩,hp⟩:=h
 exact ⟨k,hp,a,c,rfl,hw⟩
theorem lu.bad {N T en d:Nat} {res:bD (List aj)} {w w':World} {e:Ending} {er:Er} (h:lu N T en d res w e w') (hr:res=.error er):Kept (· = N) w w'∧jM er e:=by
 subst hr;exact h
theorem bW {w:World} {M i:Nat} {v:Value}:Kept (· = M) w (w.setCell ⟨M,i,none⟩ v):=(Kept.refl (· = M) w).setCell (p:=⟨M,i,none⟩) (.inl rfl) v
theorem dL.ZL {N T en M:Nat} {s:aG} {l:List aC} {w:World} (h:dL N T en M s l w) (x:aj) (hx:x.size<1000000000):dL N T en M {s with label:=x} l (w.setCell ⟨M,0,none⟩ (.string x)):=by
 obtain ⟨h1,⟨a,S,h2,h3,h4⟩,h5,h6,h7⟩:=h
 have hB:bZ M a {s with label:=x} (w.setCell ⟨M,0,none⟩ (.string x)):=by unfold bZ at h2⊢;rw [aP h2 _];rfl
 have h3':=h3.to (S':=S) (bW (w:=w) (M:=M) (i:=0) (v:=.string x)) (fun b hb=>⟨(h4 b hb).2,by have:=h4 b hb;omega⟩) (fun _ h=>h)
 exact ⟨dL.sN h1 h6 bW,⟨a,S,hB,⟨h3'.target,h3'.value,h3'.pat,h3'.params,h3'.locals,h3'.pc,h3'.lc⟩,fun b hb=>⟨(h4 b hb).1,Nat.lt_of_lt_of_le (h4 b hb).2 (bW (w:=w) (M:=M) (i:=0) (v:=.string x)).size⟩⟩,⟨hx,h5.target,h5.value,h5.pat,h5.name,h5.entry,h5.params,h5.locals,h5.always,h5.yes,h5.dh⟩,h6,h7⟩
theorem dL.setKind {N T en M:Nat} {s:aG} {l:List aC} {w:World} (h:dL N T en M s l w) (x:Int):dL N T en M {s with kind:=x} l (w.setCell ⟨M,1,none⟩ (.int .i64 x)):=by
 obtain ⟨h1,⟨a,S,h2,h3,h4⟩,h5,h6,h7⟩:=h
 have hB:bZ M a {s with kind:=x} (w.setCell ⟨M,1,none⟩ (.int .i64 x)):=by unfold bZ at h2⊢;rw [aP h2 _];rfl
 have h3':=h3.to (S':=S) (bW (w:=w) (M:=M) (i:=1) (v:=.int .i64 x)) (fun b hb=>⟨(h4 b hb).2,by have:=h4 b hb;omega⟩) (fun _ h=>h)
 exact ⟨dL.sN h1 h6 bW,⟨a,S,hB,⟨h3'.target,h3'.value,h3'.pat,h3'.params,h3'.locals,h3'.pc,h3'.lc⟩,fun b hb=>⟨(h4 b hb).1,Nat.lt_of_lt_of_le (h4 b hb).2 (bW (w:=w) (M:=M) (i:=1) (v:=.int .i64 x)).size⟩⟩,⟨h5.label,h5.target,h5.value,h5.pat,h5.name,h5.entry,h5.params,h5.locals,h5.always,h5.yes,h5.dh⟩,h6,h7⟩
theorem dL.setName {N T en M:Nat} {s:aG} {l:List aC} {w:World} (h:dL N T en M s l w) (x:aj) (hx:x.size<1000000000):dL N T en M {s with name:=x} l (w.setCell ⟨M,17,none⟩ (.string x)):=by
 obtain ⟨h1,⟨a,S,h2,h3,h4⟩,h5,h6,h7⟩:=h
 have hB:bZ M a {s with name:=x} (w.setCell ⟨M,17,none⟩ (.string x)):=by unfold bZ at h2⊢;rw [aP h2 _];rfl
 have h3':=h3.to (S':=S) (bW (w:=w) (M:=M) (i:=17) (v:=.string x)) (fun b hb=>⟨(h4 b hb).2,by have:=h4 b hb;omega⟩) (fun _ h=>h)
 exact ⟨dL.sN h1 h6 bW,⟨a,S,hB,⟨h3'.target,h3'.value,h3'.pat,h3'.params,h3'.locals,h3'.pc,h3'.lc⟩,fun b hb=>⟨(h4 b hb).1,Nat.lt_of_lt_of_le (h4 b hb).2 (bW (w:=w) (M:=M) (i:=17) (v:=.string x)).size⟩⟩,⟨h5.label,h5.target,h5.value,h5.pat,hx,h5.entry,h5.params,h5.locals,h5.always,h5.yes,h5.dh⟩,h6,h7⟩
theorem dL.Bh {N T en M:Nat} {s:aG} {l:List aC} {w:World} (h:dL N T en M s l w) (x:aj) (hx:x.size<1000000000):dL N T en M {s with entry:=x} l (w.setCell ⟨M,18,none⟩ (.string x)):=by
 obtain ⟨h1,⟨a,S,h2,h3,h4⟩,h5,h6,h7⟩:=h
 have hB:bZ M a {s with entry:=x} (w.setCell ⟨M,18,none⟩ (.string x)):=by unfold bZ at h2⊢;rw [aP h2 _];rfl
 have h3':=h3.to (S':=S) (bW (w:=w) (M:=M) (i:=18) (v:=.string x)) (fun b hb=>⟨(h4 b hb).2,by have:=h4 b hb;omega⟩) (fun _ h=>h)
 exact ⟨dL.sN h1 h6 bW,⟨a,S,hB,⟨h3'.target,h3'.value,h3'.pat,h3'.params,h3'.locals,h3'.pc,h3'.lc⟩,fun b hb=>⟨(h4 b hb).1,Nat.lt_of_lt_of_le (h4 b hb).2 (bW (w:=w) (M:=M) (i:=18) (v:=.string x)).size⟩⟩,⟨h5.label,h5.target,h5.value,h5.pat,h5.name,hx,h5.params,h5.locals,h5.always,h5.yes,h5.dh⟩,h6,h7⟩
theorem dL.Xa {N T en M:Nat} {s:aG} {l:List aC} {w:World} (h:dL N T en M s l w) (x:aj) (hx:x.size<1000000000):dL N T en M {s with always:=x} l (w.setCell ⟨M,21,none⟩ (.string x)):=by
 obtain ⟨h1,⟨a,S,h2,h3,h4⟩,h5,h6,h7⟩:=h
 have hB:bZ M a {s with always:=x} (w.setCell ⟨M,21,none⟩ (.string x)):=by unfold bZ at h2⊢;rw [aP h2 _];rfl
 have h3':=h3.to (S':=S) (bW (w:=w) (M:=M) (i:=21) (v:=.string x)) (fun b hb=>⟨(h4 b hb).2,by have:=h4 b hb;omega⟩) (fun _ h=>h)
 exact ⟨dL.sN h1 h6 bW,⟨a,S,hB,⟨h3'.target,h3'.value,h3'.pat,h3'.params,h3'.locals,h3'.pc,h3'.lc⟩,fun b hb=>⟨(h4 b hb).1,Nat.lt_of_lt_of_le (h4 b hb).2 (bW (w:=w) (M:=M) (i:=21) (v:=.string x)).size⟩⟩,⟨h5.label,h5.target,h5.value,h5.pat,h5.name,h5.entry,h5.params,h5.locals,hx,h5.yes,h5.dh⟩,h6,h7⟩
theorem dL.aeb {N T en M:Nat} {s:aG} {l:List aC} {w:World} (h:dL N T en M s l w) (x:aj) (hx:x.size<1000000000):dL N T en M {s with yes:=x} l (w.setCell ⟨M,22,none⟩ (.string x)):=by
 obtain ⟨h1,⟨a,S,h2,h3,h4⟩,h5,h6,h7⟩:=h
 have hB:bZ M a {s with yes:=x} (w.setCell ⟨M,22,none⟩ (.string x)):=by unfold bZ at h2⊢;rw [aP h2 _];rfl
 have h3':=h3.to (S':=S) (bW (w:=w) (M:=M) (i:=22) (v:=.string x)) (fun b hb=>⟨(h4 b hb).2,by have:=h4 b hb;omega⟩) (fun _ h=>h)
 exact ⟨dL.sN h1 h6 bW,⟨a,S,hB,⟨h3'.target,h3'.value,h3'.pat,h3'.params,h3'.locals,h3'.pc,h3'.lc⟩,fun b hb=>⟨(h4 b hb).1,Nat.lt_of_lt_of_le (h4 b hb).2 (bW (w:=w) (M:=M) (i:=22) (v:=.string x)).size⟩⟩,⟨h5.label,h5.target,h5.value,h5.pat,h5.name,h5.entry,h5.params,h5.locals,h5.always,hx,h5.dh⟩,h6,h7⟩
theorem dL.RD {N T en M:Nat} {s:aG} {l:List aC} {w:World} (h:dL N T en M s l w) (x:aj) (hx:x.size<1000000000):dL N T en M {s with dh:=x} l (w.setCell ⟨M,23,none⟩ (.string x)):=by
 obtain ⟨h1,⟨a,S,h2,h3,h4⟩,h5,h6,h7⟩:=h
 have hB:bZ M a {s with dh:=x} (w.setCell ⟨M,23,none⟩ (.string x)):=by unfold bZ at h2⊢;rw [aP h2 _];rfl
 have h3':=h3.to (S':=S) (bW (w:=w) (M:=M) (i:=23) (v:=.string x)) (fun b hb=>⟨(h4 b hb).2,by have:=h4 b hb;omega⟩) (fun _ h=>h)
 exact ⟨dL.sN h1 h6 bW,⟨a,S,hB,⟨h3'.target,h3'.value,h3'.pat,h3'.params,h3'.locals,h3'.pc,h3'.lc⟩,fun b hb=>⟨(h4 b hb).1,Nat.lt_of_lt_of_le (h4 b hb).2 (bW (w:=w) (M:=M) (i:=23) (v:=.string x)).size⟩⟩,⟨h5.label,h5.target,h5.value,h5.pat,h5.name,h5.entry,h5.params,h5.locals,h5.always,h5.yes,hx⟩,h6,h7⟩
theorem aS.few {w:World} {B e size n c:Nat} {a:Option Addr} {xs:List Value} (h:aS w B e size (.slice a n c) n xs):n≤c:=by
 rcases h.cells with ⟨_,hn⟩|⟨g,o,cap,hv,_,_,h1,_⟩
 ·omega
 ·simp only [Value.slice.injEq,true_and] at hv
  obtain ⟨_,rfl⟩:=hv
  exact h1
theorem dL.Xb {N T en M:Nat} {s:aG} {l l2:List aC} {w w2:World} (h:dL N T en M s l w) (hk:Kept (· = N) w w2) (hr:dB N T en l2 0 w2) (hl:l2.length≤l.length) {ns:List aj} {na:Option Addr} {nc:Nat} (hw:aS w2 w.heap.size 9 1 (.slice na ns.length nc) ns.length (vM ns)) (hx:ns.length<1000000000∧∀x∈ns,x.size<1000000000) :
  dL N T en M {s with params:=ns} l2 (w2.setCell ⟨M,19,none⟩ (.slice na ns.length nc)):=by
 have hM:M<w.heap.size:=by obtain ⟨a,S,h2,_⟩:=h.st;exact h2.lt
 obtain ⟨h1,⟨a,S,h2,h3,h4⟩,h5,h6,h7⟩:=h.aQ hk hr hl
 have hB:bZ M {a with ma:=na,mc:=nc} {s with params:=ns} (w2.setCell ⟨M,19,none⟩ (.slice na ns.length nc)):=by unfold bZ at h2⊢;rw [aP h2 _];rfl
 have kM:=bW (w:=w2) (M:=M) (i:=19) (v:=.slice na ns.length nc)
 have h3':=h3.to (S':=fun b=>S b∨(Value.slice na ns.length nc).ownBlock=some b) kM (fun b hb=>⟨(h4 b hb).2,by have:=h4 b hb;omega⟩) (fun _ h=>.inl h)
 have x3:bU (w2.setCell ⟨M,19,none⟩ (.slice na ns.length nc)) (fun b=>S b∨(Value.slice na ns.length nc).ownBlock=some b) na ns:=by
  intro h0
  rcases hw.cells with ⟨_,hn⟩|⟨g,o,c',hv,hg1,hg2,_,_,hc⟩
  ·omega
  ·simp only [Value.slice.injEq,true_and] at hv
   obtain ⟨rfl,rfl⟩:=hv
   exact ⟨g,o,rfl,.inr rfl,fun j hj=>(kM.cell hg2 (by omega)).trans (hc j _ (by simp [vM,hj])).1⟩
 refine ⟨dL.sN h1 h6 kM,⟨_,_,hB,⟨h3'.target,h3'.value,h3'.pat,x3,h3'.locals,hw.few,h3'.lc⟩,fun b hb=>?_⟩,⟨h5.label,h5.target,h5.value,h5.pat,h5.name,h5.entry,hx,h5.locals,h5.always,h5.yes,h5.dh⟩,h6,h7⟩
 rcases hb with hb|hb
 ·exact ⟨(h4 b hb).1,Nat.lt_of_lt_of_le (h4 b hb).2 kM.size⟩
 ·have:=hw.lt b hb;have:=kM.size;omega
theorem dL.Kz {N T en M:Nat} {s:aG} {l l2:List aC} {w w2:World} (h:dL N T en M s l w) (hk:Kept (· = N) w w2) (hr:dB N T en l2 0 w2) (hl:l2.length≤l.length) {ns:List aj} {na:Option Addr} {nc:Nat} (hw:aS w2 w.heap.size 9 1 (.slice na ns.length nc) ns.length (vM ns)) (hx:ns.length<1000000000∧∀x∈ns,x.size<1000000000) :
  dL N T en M {s with locals:=ns} l2 (w2.setCell ⟨M,20,none⟩ (.slice na ns.length nc)):=by
 have hM:M<w.heap.size:=by obtain ⟨a,S,h2,_⟩:=h.st;exact h2.lt
 obtain ⟨h1,⟨a,S,h2,h3,h4⟩,h5,h6,h7⟩:=h.aQ hk hr hl
 have hB:bZ M {a with la:=na,lc:=nc} {s with locals:=ns} (w2.setCell ⟨M,20,none⟩ (.slice na ns.length nc)):=by unfold bZ at h2⊢;rw [aP h2 _];rfl
 have kM:=bW (w:=w2) (M:=M) (i:=20) (v:=.slice na ns.length nc)
 have h3':=h3.to (S':=fun b=>S b∨(Value.slice na ns.length nc).ownBlock=some b) kM (fun b hb=>⟨(h4 b hb).2,by have:=h4 b hb;omega⟩) (fun _ h=>.inl h)
 have x3:bU (w2.setCell ⟨M,20,none⟩ (.slice na ns.length nc)) (fun b=>S b∨(Value.slice na ns.length nc).ownBlock=some b) na ns:=by
  intro h0
  rcases hw.cells with ⟨_,hn⟩|⟨g,o,c',hv,hg1,hg2,_,_,hc⟩
  ·omega
  ·simp only [Value.slice.injEq,true_and] at hv
   obtain ⟨rfl,rfl⟩:=hv
   exact ⟨g,o,rfl,.inr rfl,fun j hj=>(kM.cell hg2 (by omega)).trans (hc j _ (by simp [vM,hj])).1⟩
 refine ⟨dL.sN h1 h6 kM,⟨_,_,hB,⟨h3'.target,h3'.value,h3'.pat,h3'.params,x3,h3'.pc,hw.few⟩,fun b hb=>?_⟩,⟨h5.label,h5.target,h5.value,h5.pat,h5.name,h5.entry,h5.params,hx,h5.always,h5.yes,h5.dh⟩,h6,h7⟩
 rcases hb with hb|hb
 ·exact ⟨(h4 b hb).1,Nat.lt_of_lt_of_le (h4 b hb).2 kM.size⟩
 ·have:=hw.lt b hb;have:=kM.size;omega
theorem dL.um {N T en M:Nat} {s:aG} {l:List aC} {w2:World} (h:dL N T en M s l w2) {p:aA} {ka:Option Addr} {kc:Nat} {S2:Nat→Prop} (hk2:aI w2 S2 ka p.kids) (hS2:∀b,S2 b→M<b∧b<w2.heap.size) (hz:p.text.size<1000000000∧p.name.size<1000000000∧p.kids.length<1000000000) (hx:sizeT p≤1048576) :
  dL N T en M {s with target:=p} l (((((w2.setCell ⟨M,2,none⟩ (.int .i64 p.kind)).setCell ⟨M,3,none⟩ (.string p.text)).setCell ⟨M,4,none⟩ (.int .i64 p.n)).setCell ⟨M,5,none⟩ (.string p.name)).setCell ⟨M,6,none⟩ (.slice ka p.kids.length kc)):=by
 obtain ⟨h1,⟨a,S,h2,h3,h4⟩,h5,h6,h7⟩:=h
 have hB:bZ M {a with ta:=ka,tc:=kc} {s with target:=p} (((((w2.setCell ⟨M,2,none⟩ (.int .i64 p.kind)).setCell ⟨M,3,none⟩ (.string p.text)).setCell ⟨M,4,none⟩ (.int .i64 p.n)).setCell ⟨M,5,none⟩ (.string p.name)).setCell ⟨M,6,none⟩ (.slice ka p.kids.length kc)):=by unfold bZ at h2⊢;rw [aP (aP (aP (aP (aP h2 _) _) _) _) _];rfl
 have kM:Kept (· = M) w2 (((((w2.setCell ⟨M,2,none⟩ (.int .i64 p.kind)).setCell ⟨M,3,none⟩ (.string p.text)).setCell ⟨M,4,none⟩ (.int .i64 p.n)).setCell ⟨M,5,none⟩ (.string p.name)).setCell ⟨M,6,none⟩ (.slice ka p.kids.length kc)):=((((bW).trans bW).trans bW).trans bW).trans bW
 have h3':=h3.to (S':=fun b=>S b∨S2 b) kM (fun b hb=>⟨(h4 b hb).2,by have:=h4 b hb;omega⟩) (fun _ h=>.inl h)
 have x3:=hk2.to (S':=fun b=>S b∨S2 b) kM (fun b hb=>⟨(hS2 b hb).2,by have:=hS2 b hb;omega⟩) (fun _ h=>.inr h)
 refine ⟨dL.sN h1 h6 kM,⟨_,_,hB,⟨x3,h3'.value,h3'.pat,h3'.params,h3'.locals,h3'.pc,h3'.lc⟩,fun b hb=>?_⟩,⟨h5.label,⟨hz,hx⟩,h5.value,h5.pat,h5.name,h5.entry,h5.params,h5.locals,h5.always,h5.yes,h5.dh⟩,h6,h7⟩
 have:=kM.size
 rcases hb with hb|hb
 ·have:=h4 b hb;omega
 ·have:=hS2 b hb;omega
theorem dL.setValue {N T en M:Nat} {s:aG} {l:List aC} {w2:World} (h:dL N T en M s l w2) {p:aA} {ka:Option Addr} {kc:Nat} {S2:Nat→Prop} (hk2:aI w2 S2 ka p.kids) (hS2:∀b,S2 b→M<b∧b<w2.heap.size) (hz:p.text.size<1000000000∧p.name.size<1000000000∧p.kids.length<1000000000) (hx:sizeT p≤1048576) :
  dL N T en M {s with value:=p} l (((((w2.setCell ⟨M,7,none⟩ (.int .i64 p.kind)).setCell ⟨M,8,none⟩ (.string p.text)).setCell ⟨M,9,none⟩ (.int .i64 p.n)).setCell ⟨M,10,none⟩ (.string p.name)).setCell ⟨M,11,none⟩ (.slice ka p.kids.length kc)):=by
 obtain ⟨h1,⟨a,S,h2,h3,h4⟩,h5,h6,h7⟩:=h
 have hB:bZ M {a with va:=ka,vc:=kc} {s with value:=p} (((((w2.setCell ⟨M,7,none⟩ (.int .i64 p.kind)).setCell ⟨M,8,none⟩ (.string p.text)).setCell ⟨M,9,none⟩ (.int .i64 p.n)).setCell ⟨M,10,none⟩ (.string p.name)).setCell ⟨M,11,none⟩ (.slice ka p.kids.length kc)):=by unfold bZ at h2⊢;rw [aP (aP (aP (aP (aP h2 _) _) _) _) _];rfl
 have kM:Kept (· = M) w2 (((((w2.setCell ⟨M,7,none⟩ (.int .i64 p.kind)).setCell ⟨M,8,none⟩ (.string p.text)).setCell ⟨M,9,none⟩ (.int .i64 p.n)).setCell ⟨M,10,none⟩ (.string p.name)).setCell ⟨M,11,none⟩ (.slice ka p.kids.length kc)):=((((bW).trans bW).trans bW).trans bW).trans bW
 have h3':=h3.to (S':=fun b=>S b∨S2 b) kM (fun b hb=>⟨(h4 b hb).2,by have:=h4 b hb;omega⟩) (fun _ h=>.inl h)
 have x3:=hk2.to (S':=fun b=>S b∨S2 b) kM (fun b hb=>⟨(hS2 b hb).2,by have:=hS2 b hb;omega⟩) (fun _ h=>.inr h)
 refine ⟨dL.sN h1 h6 kM,⟨_,_,hB,⟨h3'.target,x3,h3'.pat,h3'.params,h3'.locals,h3'.pc,h3'.lc⟩,fun b hb=>?_⟩,⟨h5.label,h5.target,⟨hz,hx⟩,h5.pat,h5.name,h5.entry,h5.params,h5.locals,h5.always,h5.yes,h5.dh⟩,h6,h7⟩
 have:=kM.size
 rcases hb with hb|hb
 ·have:=h4 b hb;omega
 ·have:=hS2 b hb;omega
theorem dL.Xc {N T en M:Nat} {s:aG} {l:List aC} {w2:World} (h:dL N T en M s l w2) {p:aA} {ka:Option Addr} {kc:Nat} {S2:Nat→Prop} (hk2:aI w2 S2 ka p.kids) (hS2:∀b,S2 b→M<b∧b<w2.heap.size) (hz:p.text.size<1000000000∧p.name.size<1000000000∧p.kids.length<1000000000) (hx:sizeT p≤1048576) :
  dL N T en M {s with pat:=p} l (((((w2.setCell ⟨M,12,none⟩ (.int .i64 p.kind)).setCell ⟨M,13,none⟩ (.string p.text)).setCell ⟨M,14,none⟩ (.int .i64 p.n)).setCell ⟨M,15,none⟩ (.string p.name)).setCell ⟨M,16,none⟩ (.slice ka p.kids.length kc)):=by
 obtain ⟨h1,⟨a,S,h2,h3,h4⟩,h5,h6,h7⟩:=h
 have hB:bZ M {a with pa:=ka,pc:=kc} {s with pat:=p} (((((w2.setCell ⟨M,12,none⟩ (.int .i64 p.kind)).setCell ⟨M,13,none⟩ (.string p.text)).setCell ⟨M,14,none⟩ (.int .i64 p.n)).setCell ⟨M,15,none⟩ (.string p.name)).setCell ⟨M,16,none⟩ (.slice ka p.kids.length kc)):=by unfold bZ at h2⊢;rw [aP (aP (aP (aP (aP h2 _) _) _) _) _];rfl
 have kM:Kept (· = M) w2 (((((w2.setCell ⟨M,12,none⟩ (.int .i64 p.kind)).setCell ⟨M,13,none⟩ (.string p.text)).setCell ⟨M,14,none⟩ (.int .i64 p.n)).setCell ⟨M,15,none⟩ (.string p.name)).setCell ⟨M,16,none⟩ (.slice ka p.kids.length kc)):=((((bW).trans bW).trans bW).trans bW).trans bW
 have h3':=h3.to (S':=fun b=>S b∨S2 b) kM (fun b hb=>⟨(h4 b hb).2,by have:=h4 b hb;omega⟩) (fun _ h=>.inl h)
 have x3:=hk2.to (S':=fun b=>S b∨S2 b) kM (fun b hb=>⟨(hS2 b hb).2,by have:=hS2 b hb;omega⟩) (fun _ h=>.inr h)
 refine ⟨dL.sN h1 h6 kM,⟨_,_,hB,⟨h3'.target,h3'.value,x3,h3'.params,h3'.locals,h3'.pc,h3'.lc⟩,fun b hb=>?_⟩,⟨h5.label,h5.target,h5.value,⟨hz,hx⟩,h5.name,h5.entry,h5.params,h5.locals,h5.always,h5.yes,h5.dh⟩,h6,h7⟩
 have:=kM.size
 rcases hb with hb|hb
 ·have:=h4 b hb;omega
 ·have:=hS2 b hb;omega
theorem KC (l:List aA) (j:Nat) (hj:j<l.length):pq (l.take (j+1))=max (pq (l.take j)) (pz l[j]):=by
 induction l generalizing j with
 | nil=>simp at hj
 | cons p ps ih =>
  cases j with
  | zero=>simp [pq]
  | succ j=>simp only [List.take_succ_cons,pq,List.getElem_cons_succ];rw [ih j (by simpa using hj)];omega
mutual
theorem FY:∀p:aA,pz p≤sizeT p
 | .mk k t n nm kids=>by rw [pz,sizeT];have:=zu kids;omega
theorem zu:∀l:List aA,pq l≤aT l
 | []=>Nat.le_refl _
 | p::ps=>by rw [pq,aT];have:=FY p;have:=zu ps;omega
end
theorem Oy (l:List aA) (j:Nat):pq (l.take j)≤aT l:=Nat.le_trans (zu _) (Uf l j)
theorem KG:∀(n:Nat) (p:aA) (b o:Nat) (S:Nat→Prop) (w:World),sizeT p≤n→n≤100000000→aW w S b o p→Calls Tryz.prog 57 #[.pointer (some ⟨b,o,none⟩)] w (wX (pz p) w):=by
 intro n
 induction n with
 | zero=>intro p b o S w hn _ _;obtain ⟨k,t,m,nm,kids⟩:=p;simp [sizeT] at hn
 | succ n ih =>
  intro p b o S w hn hmax hp
  obtain ⟨k,t,m,nm,kids⟩:=p
  obtain ⟨hSb,hz,c0,c1,c2,c3,ka,cap,c4,hk⟩:=hp.open
  have hks:aT kids≤n:=by rw [sizeT] at hn;omega
  have hkl:kids.length<1000000000:=hz.2.2
  dsimp only [aA.kids] at c4 hk
  have HIH:=ah ih;have HK:=ah hk;have Vx:=ah hks
  have HD:Hid (pz (.mk k t m nm kids)=pq kids+1):=rfl
  clear hp hz hk hn ih
  go_enter Tryz.func57, Tryz.ntmps57
  go_wp2_with fail
  go_loopw [10,3] (fun x y wr=>∃j:Nat,j≤kids.length∧x=.int .i64 j∧y=.int .i64 ((pq (kids.take j):Nat):Int)∧wr=w) (fun x _ _=>kids.length-(intOf x).toNat)
  case atStart=>exact ⟨0,Nat.zero_le _,rfl,rfl,rfl⟩
  case round =>
   obtain ⟨j,hj,rfl,rfl,rfl⟩:=hrel
   by_cases hlt:j<kids.length
   ·have hb1:decide ((j:Int)<(kids.length:Int))=true:=ak (by omega)
    have hb2:decide (j<kids.length)=true:=ak hlt
    obtain ⟨kb,ko,rfl⟩:=pU HK.out (by omega)
    have hC:=ah (HIH.out kids[j] kb (ko+j*5) S _ (by have:=qy kids j hlt;have:=Vx.out;omega) (by omega) (oQ kids kb ko j hlt HK.out))
    have hmx:((max (pq (kids.take j)) (pz kids[j]):Nat):Int)=((pq (kids.take (j+1)):Nat):Int):=by rw [KC kids j hlt]
    have ag5:max ((pq (kids.take j):Nat):Int) ((pz kids[j]:Nat):Int)=((pq (kids.take (j+1)):Nat):Int):=by rw [KC kids j hlt];omega
    have hd1:pq (kids.take j)≤100000000:=Nat.le_trans (Oy kids j) (by have:=Vx.out;omega)
    obtain ⟨x,hx⟩:∃x,x=pq (kids.take j):=⟨_,rfl⟩
    obtain ⟨y,hy⟩:∃y,y=pz kids[j]:=⟨_,rfl⟩
    obtain ⟨z,hzz⟩:∃z,z=pq (kids.take (j+1)):=⟨_,rfl⟩
    rw [←hy] at hC
    rw [←hx,←hy,←hzz] at ag5
    rw [←hx] at hd1⊢
    have HZZ:=ah hzz
    clear hmx hx hy hzz
    go_wp2_with (go_at_call 57;(refine hC.out.mono ?_);rintro e w' ⟨rfl,aK⟩;obtain rfl:=aK)
    go_roundw
    case measure=>simp [intOf];omega
    case rel=>exact ⟨j+1,by omega,by go_num,by rw [HZZ.out],trivial⟩
   ·obtain rfl:j=kids.length:=by omega
    have hb1:decide ((kids.length:Int)<(kids.length:Int))=false:=au (by omega)
    have hb2:decide (kids.length<kids.length)=false:=au (by omega)
    have hd1:pq kids≤100000000:=Nat.le_trans (zu kids) (by have:=Vx.out;omega)
    rw [List.take_length]
    go_wp2_with fail
    go_ret
    exact ⟨by rw [HD.out];rfl,rfl⟩
end Go.Proofs.YtgoijmpahffnhaaGreatDoor
