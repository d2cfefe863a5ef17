/-  -/
import Derived.Test.YtefjbnhpjdhjmaaGreatDoorTm16
namespace Go.Proofs.YtefjbnhpjdhjmaaGreatDoor
set_option linter.all false
open Go.RowKit
set_option maxRecDepth 100000
set_option maxHeartbeats 4000000
def qY (s:aQ):List aj:=[s.label,s.always,s.yes,s.aW]
def xF:List aj→Bool
 | []=>true
 | x::r=>nD x&&xF r
theorem Xx (l:List aj) (j:Nat) (h:j<l.length):xF (l.drop j)=(nD l[j]&&xF (l.drop (j+1))):=by
 rw [List.drop_eq_getElem_cons h,xF]
theorem Xy {s:aQ} (h:oP s) (j:Nat) (hj:j<(qY s).length):((qY s)[j]).size<1000000000:=by
 have:∀x∈qY s,x.size<1000000000:=by
  intro x hx
  simp only [qY,List.mem_cons,List.not_mem_nil,or_false] at hx
  rcases hx with rfl|rfl|rfl|rfl
  ·exact h.label
  ·exact h.always
  ·exact h.yes
  ·exact h.aW
 exact this _ (List.getElem_mem hj)
theorem QI {s:aQ} (h:xF (qY s)=false):jR s=7:=by
 unfold jR
 rw [if_pos]
 simp only [qY,xF,Bool.and_true] at h
 intro hc
 rw [hc.1,hc.2.1,hc.2.2.1,hc.2.2.2] at h
 cases h
theorem MF {x:aj} {b:Bool} (h:nD x=b):(x.size=0∧x.toList.isEmpty=true∧b=true)∨(x.size≠0∧x.toList.isEmpty=false∧aS x=b):=by
 unfold nD at h
 by_cases h0:x.size=0
 ·exact .inl ⟨h0,nK.2 h0,by rw [←h];simp [h0]⟩
 ·exact .inr ⟨h0,jW.2 (by omega),by rw [←h];simp [h0]⟩
def sU (s:aQ):Bool:=!s.always.toList.isEmpty&&(!s.yes.toList.isEmpty||!s.aW.toList.isEmpty)
theorem Xz (s:aQ):(s.always.toList.isEmpty=true∧sU s=false)∨(s.always.toList.isEmpty=false∧s.yes.toList.isEmpty=false∧sU s=true)∨
  (s.always.toList.isEmpty=false∧s.yes.toList.isEmpty=true∧s.aW.toList.isEmpty=false∧sU s=true)∨(s.always.toList.isEmpty=false∧s.yes.toList.isEmpty=true∧s.aW.toList.isEmpty=true∧sU s=false):=by
 unfold sU
 cases s.always.toList.isEmpty<;>cases s.yes.toList.isEmpty<;>cases s.aW.toList.isEmpty<;>simp
theorem Jw (s:aQ):sU s=true↔s.always.size≠0∧(s.yes.size≠0∨s.aW.size≠0):=by
 unfold sU
 simp only [Bool.and_eq_true,Bool.or_eq_true,Bool.not_eq_true']
 rw [jW,jW,jW]
 omega
theorem PZ {s:aQ} (h:xF (qY s)=true):nD s.label=true∧nD s.always=true∧nD s.yes=true∧nD s.aW=true:=by
 simpa [qY,xF] using h
theorem UC {s:aQ} (h:xF (qY s)=true) (hb:sU s=true):jR s=8:=by
 unfold jR
 rw [if_neg (fun hc=>hc (PZ h)),if_pos ((Jw s).1 hb)]
def lF (s:aQ):Int :=
 if s.kind=1 then 0
 else if s.kind=2 then bg s.value
 else if s.kind=4 then gy [bg s.value,bJ s.pat]
 else if s.kind=3 then gy [bg s.target,if isTarget s.target then 0 else 8,bg s.value]
 else if s.kind=5 then gy [bg s.target,if isTarget s.target then 0 else 8,bJ s.pat,bg s.value]
 else if s.kind=6 then gy [aK [s.name],bJ s.pat]
 else if s.kind=7 then gy [aK [s.name],aK s.params,aK s.locals,aK [s.entry],if 8<s.params.length∨8<s.locals.length then 5 else 0]
 else 1
theorem QJ {s:aQ} (h:xF (qY s)=true) (hb:sU s=false):jR s=lF s:=by
 unfold jR lF
 rw [if_neg (fun hc=>hc (PZ h)),if_neg (fun hc=>by rw [(Jw s).2 hc] at hb;cases hb)]
def aep (s:aQ) (w0:World) (l:Value) (w:World):Prop :=
 ∃(es:List Int) (a:Option Addr) (c:Nat),l=.slice a es.length c∧es.length≤10∧cZ w w0.heap.size 32 1 (.slice a es.length c) es.length (es.map (Value.int .i64))∧Hid (lF s=gy es)∧Kept aF w0 w
theorem NQ (s:aQ) (v:Value) (S:Nat→Prop) (w:World) (hs:StV w S v s) (hS:Safe S aF w.heap.size):Calls Tryz.prog 10 #[v] w (SQ (jR s) w):=by
 obtain ⟨a,rfl,hz,ho⟩:=hs
 unfold bV
 have B1:=dP.new w a s
 have k1:Kept aF w _:=(Kept.refl aF w).alloc (.cells (bZ a s).toArray 30)
 unfold bZ at k1
 generalize hw1:World.alloc w _=w1 at B1 k1
 have HB1:=ah B1;have iH:=ah k1;have HW1:=ah hw1
 obtain ⟨c0,c1,c2,c3,c4,c5,c6,c7,c8,c9,c10,c11,c12,c13,c14,c15,c16,c17,c18,c19,c20,c21,eu,c23⟩:=B1.cells
 have HZ:=ah hz
 have HO:=ah ho;have HS:=ah hS
 clear B1 k1 hw1 hz ho hS
 go_enter Tryz.func10, Tryz.ntmps10
 go_upto_region 1 with fail
 rw [HW1.out]
 go_upto_region 2 with fail
 obtain ⟨w2,hw2⟩:∃w2,w2=(w1.alloc (.cells #[.string s.label,.string s.always,.string s.yes,.string s.aW] 9)):=⟨_,rfl⟩
 rw [←hw2]
 have hrow:w2.heap[w1.heap.size]?=some (.cells ((qY s).map Value.string).toArray 9 (0,0)):=by rw [hw2];exact ay w1 _
 have k2:Kept aF w1 w2:=by rw [hw2];exact (Kept.refl aF _).alloc _
 have HL:Hid (nM w2 (· = w1.heap.size) (some ⟨w1.heap.size,0,none⟩) (qY s)):=Dk hrow rfl
 have HB2:=ah (HB1.out.kept k2 (fun h=>h));have qw:=ah (iH.out.trans k2)
 clear hrow hw2 k2 c0 c1 c2 c3 c4 c5 c6 c7 c8 c9 c10 c11 c12 c13 c14 c15 c16 c17 c18 c19 c20 c21 eu c23 HW1 HB1 iH
 go_loop [18] (fun i=>∃j:Nat,j≤4∧i=.int .i64 j∧Hid (xF (qY s)=xF ((qY s).drop j))) (fun i=>4-(intOf i).toNat)
 case atStart=>exact ⟨0,Nat.zero_le _,rfl,by unfold Hid;rw [List.drop_zero]⟩
 case round =>
  obtain ⟨j,hj,rfl,hno⟩:=hrel
  by_cases hlt:j<4
  ·have hcj:w2.cell? ⟨w1.heap.size,0+j,none⟩=some (.string (qY s)[j]):=by
    obtain ⟨b,o,e,_,hc⟩:=HL.out (by show 0<4;decide)
    simp only [Option.some.injEq,Addr.mk.injEq,and_true] at e
    obtain ⟨rfl,rfl⟩:=e
    exact hc j hlt
   rw [Nat.zero_add] at hcj
   have hd:=Xx (qY s) j hlt
   have hsz:=Xy HZ.out j hlt
   have hsl:((qY s)[j]).size≤maxLen:=by unfold maxLen;omega
   generalize (qY s)[j]=x at hcj hd hsz hsl
   have hn:=ah hno.out
   cases hb:nD x with
   | true =>
    rw [hb,Bool.true_and] at hd
    have step:=ah (hno.out.trans hd)
    rcases MF hb with ⟨_,e1,_⟩|⟨_,e1,e2⟩
    ·clear hd hb
     go_wp2_with fail
     go_round
     case rel=>exact ⟨j+1,by omega,by go_num,step⟩
     case measure=>simp [intOf];omega
    ·have E2:=ah e2
     clear hd hb e2
     go_wp2_with (go_at_call 26;(with_reducible refine (uY _ _ hsl).mono ?_);rintro e w' ⟨rfl,rfl⟩;rw [E2.out])
     go_round
     case rel=>exact ⟨j+1,by omega,by go_num,step⟩
     case measure=>simp [intOf];omega
   | false =>
    rw [hb,Bool.false_and] at hd
    have fin:=ah (QI (hno.out.trans hd))
    rcases MF hb with ⟨_,_,e2⟩|⟨_,e1,e2⟩
    ·cases e2
    ·have E2:=ah e2
     clear hd hb e2
     go_wp2_with (go_at_call 26;(with_reducible refine (uY _ _ hsl).mono ?_);rintro e w' ⟨rfl,rfl⟩;rw [E2.out])
     go_ret
     exact ⟨by rw [fin.out];try rfl,qw.out⟩
  ·obtain rfl:j=4:=by omega
   have hlab:Hid (xF (qY s)=true):=by unfold Hid;rw [hno.out];rfl
   obtain ⟨c0,c1,c2,c3,c4,c5,c6,c7,c8,c9,c10,c11,c12,c13,c14,c15,c16,c17,c18,c19,c20,c21,eu,c23⟩:=HB2.out.cells
   go_upto_region 7 with fail
   go_cut [42] (fun c wx=>c=.bool (sU s)∧w2=wx)
   case first =>
    rcases Xz s with ⟨e1,e2⟩|⟨e1,e2,e3⟩|⟨e1,e2,e3,e4⟩|⟨e1,e2,e3,e4⟩
    all_goals
     clear HL HO HS HZ
     go_wp2_with fail
     go_meet
     exact ⟨by first|rw [e2]|rw [e3]|rw [e4],rfl⟩
   case rest =>
    obtain ⟨rfl,rfl⟩:=hcut
    cases hbad:sU s with
    | true =>
     have fin:=ah (UC hlab.out hbad)
     clear hbad
     go_wp2_with fail
     go_ret
     exact ⟨by rw [fin.out];try rfl,qw.out⟩
    | false =>
     have heq:=ah (QJ hlab.out hbad)
     clear hbad
     have Sj:Hid (lT w2 S a s):=HO.out.to qw.out HS.out (fun _ h=>h)
     go_upto_block 2 with fail
     go_cut [5] (fun l wx=>aep s w2 l wx)
     case first =>
      clear HL hj hno hlt hlab
      have Dl:Hid (gZ w2 S (.agg #[.int .i64 s.target.kind,.string s.target.text,.int .i64 s.target.n,.string s.target.name,.slice a.ta s.target.kids.length a.tc]) s.target):=⟨a.ta,a.tc,rfl,HZ.out.target.z,Sj.out.target⟩
      have yU:Hid (gZ w2 S (.agg #[.int .i64 s.value.kind,.string s.value.text,.int .i64 s.value.n,.string s.value.name,.slice a.va s.value.kids.length a.vc]) s.value):=⟨a.va,a.vc,rfl,HZ.out.value.z,Sj.out.value⟩
      have Nj:Hid (gZ w2 S (.agg #[.int .i64 s.pat.kind,.string s.pat.text,.int .i64 s.pat.n,.string s.pat.name,.slice a.pa s.pat.kids.length a.pc]) s.pat):=⟨a.pa,a.pc,rfl,HZ.out.pat.z,Sj.out.pat⟩
      have SS:Hid (Safe S aF w2.heap.size):=HS.out.mono qw.out.size
      have Jy:Hid (Kept aF w2 w2):=Kept.refl _ _
      by_cases hkd:s.kind=1
      ·have EK:Hid (lF s=gy []):=by unfold Hid;unfold lF;rw [if_pos hkd];rfl
       have z1:(s.kind==1)=true:=by rw [hkd];rfl
       clear hkd
       go_wp2_with fail
       go_meet
       exact ⟨[],none,0,rfl,by simp,cZ.nil ..,EK,Kept.refl _ _⟩
      have n1:=hkd;clear hkd
      by_cases hkd:s.kind=2
      ·have EK:Hid (lF s=gy [bg s.value]):=by unfold Hid;unfold lF;rw [if_neg (by omega),if_pos hkd];simp [gy]
       have z1:(s.kind==1)=false:=by rw [hkd];rfl
       have z2:(s.kind==2)=true:=by rw [hkd];rfl
       clear hkd
       go_wp2_with fail
       refine (rX s.value _ S _ (yU.out.rF Jy.out SS.out) (SS.out.mono Jy.out.size) (by have:=HZ.out.value.t;omega)).mono ?_
       rintro e w3 ⟨rfl,k_⟩
       have K3:=ah (Jy.out.trans k_)
       clear k_
       clear c0 c1 c2 c3 c4 c5 c6 c7 c8 c9 c10 c11 c12 c13 c14 c15 c16 c17 c18 c19 c20 c21 eu c23;obtain ⟨c0,c1,c2,c3,c4,c5,c6,c7,c8,c9,c10,c11,c12,c13,c14,c15,c16,c17,c18,c19,c20,c21,eu,c23⟩:=(HB2.out.kept K3.out (fun h=>h)).cells
       go_wp2_with (at_builtin;go_loud (refine jZ (w0:=w2) rfl _ _ rfl (.slice none 0 0) 0 [] rfl w2.heap.size (cZ.nil ..) [bg s.value] w3.heap.size rfl (ay _ _) (by simp) (by have:=K3.out.size;simp;omega) (K3.out.alloc _) (Nat.le_refl _) ?_);intro a4 uI w4 mM mO _;have zA:Hid (cZ w4 w2.heap.size 32 1 (.slice a4 1 uI) 1 [.int .i64 (bg s.value)]):=mM;have K4:=ah mO;clear mM mO;clear c0 c1 c2 c3 c4 c5 c6 c7 c8 c9 c10 c11 c12 c13 c14 c15 c16 c17 c18 c19 c20 c21 eu c23;obtain ⟨c0,c1,c2,c3,c4,c5,c6,c7,c8,c9,c10,c11,c12,c13,c14,c15,c16,c17,c18,c19,c20,c21,eu,c23⟩:=(HB2.out.kept K4.out (fun h=>h)).cells)
       go_meet
       exact ⟨[bg s.value],a4,uI,rfl,by simp,zA.out,EK,K4.out⟩
      have n2:=hkd;clear hkd
      by_cases hkd:s.kind=4
      ·have z1:(s.kind==1)=false:=by rw [hkd];rfl
       have z2:(s.kind==2)=false:=by rw [hkd];rfl
       have z4:(s.kind==4)=true:=by rw [hkd];rfl
       have EK:Hid (lF s=gy [bg s.value,bJ s.pat]):=by unfold Hid;unfold lF;rw [if_neg (by omega),if_neg (by omega),if_pos hkd]
       clear hkd
       go_upto_region 16 with fail
       obtain ⟨Sp,hSp⟩:∃Sp:Nat→Value→World→Prop,Sp=(fun i v wx=>match i with
        | 0=>v=.slice none 0 0
        | 1=>v=.pointer (some ⟨w.heap.size,7,none⟩)
        | 2=>v=.agg #[.int .i64 s.value.kind,.string s.value.text,.int .i64 s.value.n,.string s.value.name,.slice a.va s.value.kids.length a.vc]
        | 3=>v=.int .i64 (bg s.value)
        | 4=>v=.pointer (some ⟨w.heap.size,12,none⟩)
        | 5=>v=.agg #[.int .i64 s.pat.kind,.string s.pat.text,.int .i64 s.pat.n,.string s.pat.name,.slice a.pa s.pat.kids.length a.pc]
        | 6=>v=.int .i64 (bJ s.pat)
        | 7=>∃g,v=.slice (some ⟨g,0,none⟩) 2 2∧g<wx.heap.size∧wx.heap[g]?=some (.cells #[.int .i64 (bg s.value),.int .i64 (bJ s.pat)] 32 (0,0))
        | 8=>∃a' c',v=.slice a' 2 c'∧cZ wx w2.heap.size 32 1 (.slice a' 2 c') 2 [.int .i64 (bg s.value),.int .i64 (bJ s.pat)]
        | _=>∃a' c',v=.slice a' 2 c'∧cZ wx w2.heap.size 32 1 (.slice a' 2 c') 2 [.int .i64 (bg s.value),.int .i64 (bJ s.pat)]):=⟨_,rfl⟩
       refine uZ Sp [57,58,59,60,61,62,63,64,65,5] (by kernel_rfl) (by kernel_rfl) (by kernel_rfl) (fun i v w w' h hk=>by
         subst hSp
         rcases i with _|_|_|_|_|_|_|_|_|_|i
         all_goals (first
          | exact h
          | (obtain ⟨g,h1,h2,h3⟩:=h;exact ⟨g,h1,Nat.lt_of_lt_of_le h2 hk.size,by rw [hk.block g h2 (fun h=>h)];exact h3⟩)
          | (obtain ⟨a,c,h1,h2⟩:=h;exact ⟨a,c,h1,h2.kept hk (fun _ _ h=>h)⟩))) ?_ ?_
       ·intro i o hi l x wy hI hlf haft
        have e1:x.eval (.tmp 1)=.pointer (some ⟨w.heap.size,0,none⟩):=hI.keep 1 _ rfl (by kernel_rfl)
        have hO2:=Sj.out
        have B3:=HB2.out.kept hI.kept (fun h=>h)
        clear c0 c1 c2 c3 c4 c5 c6 c7 c8 c9 c10 c11 c12 c13 c14 c15 c16 c17 c18 c19 c20 c21 eu c23
        obtain ⟨c0,c1,c2,c3,c4,c5,c6,c7,c8,c9,c10,c11,c12,c13,c14,c15,c16,c17,c18,c19,c20,c21,eu,c23⟩:=B3.cells
        rcases i with _|_|_|_|_|_|_|_|_|_|i
        all_goals (simp only [List.getElem?_toArray,List.getElem?_cons_zero,List.getElem?_cons_succ,List.getElem?_nil,Option.some.injEq,reduceCtorEq] at hi)
        all_goals subst hi
        ·have e5:x.eval (.tmp 5)=.slice none 0 0:=hI.late hlf 9 5 rfl rfl rfl _ rfl
         refine bU (v:=.slice none 0 0) ?_ (by subst hSp;exact rfl)
         simp only [execOp,resolve,invoke,List.map_toArray,List.map_cons,List.map_nil,e5];go_simp
        ·refine bU (v:=.pointer (some ⟨w.heap.size,7,none⟩)) ?_ (by subst hSp;exact rfl)
         simp only [execOp,resolve,invoke,List.map_toArray,List.map_cons,List.map_nil,e1];go_simp
        ·have d58:x.eval (.tmp 58)=.pointer (some ⟨w.heap.size,7,none⟩):=by have h_:=hI.dep haft 1 58 rfl rfl rfl;rw [hSp] at h_;exact h_
         refine bU (v:=.agg #[.int .i64 s.value.kind,.string s.value.text,.int .i64 s.value.n,.string s.value.name,.slice a.va s.value.kids.length a.vc]) ?_ (by subst hSp;exact rfl)
         simp only [execOp,resolve,invoke,List.map_toArray,List.map_cons,List.map_nil,d58];go_simp
        ·have d59:x.eval (.tmp 59)=.agg #[.int .i64 s.value.kind,.string s.value.text,.int .i64 s.value.n,.string s.value.name,.slice a.va s.value.kids.length a.vc]:=by have h_:=hI.dep haft 2 59 rfl rfl rfl;rw [hSp] at h_;exact h_
         refine nU (f:=27) (args:=#[.agg #[.int .i64 s.value.kind,.string s.value.text,.int .i64 s.value.n,.string s.value.name,.slice a.va s.value.kids.length a.vc]]) ?_ ?_
         ·simp only [execOp,resolve,invoke,List.map_toArray,List.map_cons,List.map_nil,d59];go_simp
         ·exact (rX s.value _ S _ (yU.out.rF hI.kept SS.out) (SS.out.mono hI.kept.size) (by have:=HZ.out.value.t;omega)).mono fun e w' h=>⟨_,h.1,by subst hSp;exact rfl,h.2⟩
        ·refine bU (v:=.pointer (some ⟨w.heap.size,12,none⟩)) ?_ (by subst hSp;exact rfl)
         simp only [execOp,resolve,invoke,List.map_toArray,List.map_cons,List.map_nil,e1];go_simp
        ·have d61:x.eval (.tmp 61)=.pointer (some ⟨w.heap.size,12,none⟩):=by have h_:=hI.dep haft 4 61 rfl rfl rfl;rw [hSp] at h_;exact h_
         refine bU (v:=.agg #[.int .i64 s.pat.kind,.string s.pat.text,.int .i64 s.pat.n,.string s.pat.name,.slice a.pa s.pat.kids.length a.pc]) ?_ (by subst hSp;exact rfl)
         simp only [execOp,resolve,invoke,List.map_toArray,List.map_cons,List.map_nil,d61];go_simp
        ·have d62:x.eval (.tmp 62)=.agg #[.int .i64 s.pat.kind,.string s.pat.text,.int .i64 s.pat.n,.string s.pat.name,.slice a.pa s.pat.kids.length a.pc]:=by have h_:=hI.dep haft 5 62 rfl rfl rfl;rw [hSp] at h_;exact h_
         refine nU (f:=28) (args:=#[.agg #[.int .i64 s.pat.kind,.string s.pat.text,.int .i64 s.pat.n,.string s.pat.name,.slice a.pa s.pat.kids.length a.pc]]) ?_ ?_
         ·simp only [execOp,resolve,invoke,List.map_toArray,List.map_cons,List.map_nil,d62];go_simp
         ·exact (xO s.pat _ _ ((Nj.out.rF hI.kept SS.out).all (SS.out.mono hI.kept.size)) (by have:=HZ.out.pat.t;omega)).mono fun e w' h=>⟨_,h.1,by subst hSp;exact rfl,h.2⟩
        ·have d60:x.eval (.tmp 60)=.int .i64 (bg s.value):=by have h_:=hI.dep haft 3 60 rfl rfl rfl;rw [hSp] at h_;exact h_
         have d63:x.eval (.tmp 63)=.int .i64 (bJ s.pat):=by have h_:=hI.dep haft 6 63 rfl rfl rfl;rw [hSp] at h_;exact h_
         refine BA (v:=.slice (some ⟨wy.heap.size,0,none⟩) 2 2) (w':=wy.alloc (.cells #[.int .i64 (bg s.value),.int .i64 (bJ s.pat)] 32)) ?_ ((Kept.refl _ _).alloc _) (by subst hSp;exact ⟨_,rfl,by simp,ay _ _⟩)
         simp only [execOp,resolve,invoke,List.map_toArray,List.map_cons,List.map_nil,d60,d63];go_simp
        ·have d57:x.eval (.tmp 57)=.slice none 0 0:=by have h_:=hI.dep haft 0 57 rfl rfl rfl;rw [hSp] at h_;exact h_
         have d64:∃g,x.eval (.tmp 64)=.slice (some ⟨g,0,none⟩) 2 2∧g<wy.heap.size∧wy.heap[g]?=some (.cells #[.int .i64 (bg s.value),.int .i64 (bJ s.pat)] 32 (0,0)):=by have h_:=hI.dep haft 7 64 rfl rfl rfl;rw [hSp] at h_;exact h_
         obtain ⟨g,hv,_,hg⟩:=d64
         exact Nq _ _ rfl d57 [bg s.value,bJ s.pat] g hv hg (by simp) w2.heap.size hI.kept.size fun a' c' w' hW=>by subst hSp;exact ⟨a',c',rfl,hW⟩
        ·have d65:∃a' c',x.eval (.tmp 65)=.slice a' 2 c'∧cZ wy w2.heap.size 32 1 (.slice a' 2 c') 2 [.int .i64 (bg s.value),.int .i64 (bJ s.pat)]:=by have h_:=hI.dep haft 8 65 rfl rfl rfl;rw [hSp] at h_;exact h_
         obtain ⟨a',c',hv,hW⟩:=d65
         refine bU (v:=.slice a' 2 c') ?_ (by subst hSp;exact ⟨_,_,rfl,hW⟩)
         simp only [execOp,resolve,invoke,List.map_toArray,List.map_cons,List.map_nil,hv];go_simp
       ·intro f wy hK hS
        have MG:=hS 9 _ 5 rfl rfl
        rw [hSp] at MG
        obtain ⟨a4,uI,e5,MH⟩:=MG
        have zA:Hid (cZ wy w2.heap.size 32 1 (.slice a4 2 uI) 2 [.int .i64 (bg s.value),.int .i64 (bJ s.pat)]):=MH
        have K4:=ah hK
        clear hK hS MH
        clear c0 c1 c2 c3 c4 c5 c6 c7 c8 c9 c10 c11 c12 c13 c14 c15 c16 c17 c18 c19 c20 c21 eu c23;obtain ⟨c0,c1,c2,c3,c4,c5,c6,c7,c8,c9,c10,c11,c12,c13,c14,c15,c16,c17,c18,c19,c20,c21,eu,c23⟩:=(HB2.out.kept K4.out (fun h=>h)).cells
        simp only [kP,List.foldl_cons,List.foldl_nil,List.setIfInBounds_toArray,List.set_cons_zero,List.set_cons_succ,e5]
        clear e5
        go_wp2_with fail
        go_meet
        exact ⟨[bg s.value,bJ s.pat],a4,uI,rfl,by simp,zA.out,EK,K4.out⟩
      have n4:=hkd;clear hkd
      by_cases hkd:s.kind=3
      ·have z1:(s.kind==1)=false:=by rw [hkd];rfl
       have z2:(s.kind==2)=false:=by rw [hkd];rfl
       have z4:(s.kind==4)=false:=by rw [hkd];rfl
       have z3:(s.kind==3)=true:=by rw [hkd];rfl
       have z5:(s.kind==5)=false:=by rw [hkd];rfl
       have XA:=ah hkd
       clear hkd
       go_wp2_with fail
       refine (rX s.target _ S _ (Dl.out.rF Jy.out SS.out) (SS.out.mono Jy.out.size) (by have:=HZ.out.target.t;omega)).mono ?_
       rintro e w3 ⟨rfl,k_⟩
       have K3:=ah (Jy.out.trans k_)
       clear k_
       clear c0 c1 c2 c3 c4 c5 c6 c7 c8 c9 c10 c11 c12 c13 c14 c15 c16 c17 c18 c19 c20 c21 eu c23;obtain ⟨c0,c1,c2,c3,c4,c5,c6,c7,c8,c9,c10,c11,c12,c13,c14,c15,c16,c17,c18,c19,c20,c21,eu,c23⟩:=(HB2.out.kept K3.out (fun h=>h)).cells
       go_wp2_with (at_builtin;go_loud (refine jZ (w0:=w2) rfl _ _ rfl (.slice none 0 0) 0 [] rfl w2.heap.size (cZ.nil ..) [bg s.target] w3.heap.size rfl (ay _ _) (by simp) (by have:=K3.out.size;simp;omega) (K3.out.alloc _) (Nat.le_refl _) ?_);intro a4 uI w4 mM mO _;have zA:Hid (cZ w4 w2.heap.size 32 1 (.slice a4 1 uI) 1 [.int .i64 (bg s.target)]):=mM;have K4:=ah mO;clear mM mO;clear c0 c1 c2 c3 c4 c5 c6 c7 c8 c9 c10 c11 c12 c13 c14 c15 c16 c17 c18 c19 c20 c21 eu c23;obtain ⟨c0,c1,c2,c3,c4,c5,c6,c7,c8,c9,c10,c11,c12,c13,c14,c15,c16,c17,c18,c19,c20,c21,eu,c23⟩:=(HB2.out.kept K4.out (fun h=>h)).cells)
       refine (Jv s.target _ S _ (Dl.out.rF K4.out SS.out)).mono ?_
       rintro e w5 ⟨rfl,k_⟩
       have K5:=ah (K4.out.trans k_)
       have Jz:=ah (zA.out.kept k_ (fun _ _ h=>h))
       clear k_
       clear c0 c1 c2 c3 c4 c5 c6 c7 c8 c9 c10 c11 c12 c13 c14 c15 c16 c17 c18 c19 c20 c21 eu c23;obtain ⟨c0,c1,c2,c3,c4,c5,c6,c7,c8,c9,c10,c11,c12,c13,c14,c15,c16,c17,c18,c19,c20,c21,eu,c23⟩:=(HB2.out.kept K5.out (fun h=>h)).cells
       by_cases ht:isTarget s.target
       ·have EK:Hid (lF s=gy [bg s.target,bg s.value]):=by have hkd:=XA.out;unfold Hid;unfold lF;rw [if_neg (by omega),if_neg (by omega),if_neg (by omega),if_pos hkd];rw [if_pos ht];simp [gy]
        have hb:decide (isTarget s.target)=true:=ak ht
        rw [hb]
        clear hb ht
        go_wp2_with fail
        refine (rX s.value _ S _ (yU.out.rF K5.out SS.out) (SS.out.mono K5.out.size) (by have:=HZ.out.value.t;omega)).mono ?_
        rintro e w6 ⟨rfl,k_⟩
        have K6:=ah (K5.out.trans k_)
        have Gw:=ah (Jz.out.kept k_ (fun _ _ h=>h))
        clear k_
        clear c0 c1 c2 c3 c4 c5 c6 c7 c8 c9 c10 c11 c12 c13 c14 c15 c16 c17 c18 c19 c20 c21 eu c23;obtain ⟨c0,c1,c2,c3,c4,c5,c6,c7,c8,c9,c10,c11,c12,c13,c14,c15,c16,c17,c18,c19,c20,c21,eu,c23⟩:=(HB2.out.kept K6.out (fun h=>h)).cells
        go_wp2_with (at_builtin;go_loud (refine jZ (w0:=w2) rfl _ _ rfl (.slice a4 1 uI) 1 [.int .i64 (bg s.target)] rfl w2.heap.size (Gw.out.alloc _) [bg s.value] w6.heap.size rfl (ay _ _) (by simp) (by have:=K6.out.size;simp;omega) (K6.out.alloc _) (Nat.le_refl _) ?_);intro a7 XC w7 mM mO _;have P6:Hid (cZ w7 w2.heap.size 32 1 (.slice a7 2 XC) 2 [.int .i64 (bg s.target),.int .i64 (bg s.value)]):=mM;have K7:=ah mO;clear mM mO;clear c0 c1 c2 c3 c4 c5 c6 c7 c8 c9 c10 c11 c12 c13 c14 c15 c16 c17 c18 c19 c20 c21 eu c23;obtain ⟨c0,c1,c2,c3,c4,c5,c6,c7,c8,c9,c10,c11,c12,c13,c14,c15,c16,c17,c18,c19,c20,c21,eu,c23⟩:=(HB2.out.kept K7.out (fun h=>h)).cells)
        go_meet
        exact ⟨[bg s.target,bg s.value],a7,XC,rfl,by simp,P6.out,EK,K7.out⟩
       ·have EK:Hid (lF s=gy [bg s.target,8,bg s.value]):=by have hkd:=XA.out;unfold Hid;unfold lF;rw [if_neg (by omega),if_neg (by omega),if_neg (by omega),if_pos hkd];rw [if_neg ht]
        have hb:decide (isTarget s.target)=false:=au ht
        rw [hb]
        clear hb ht
        go_wp2_with (at_builtin;go_loud (refine jZ (w0:=w2) rfl _ _ rfl (.slice a4 1 uI) 1 [.int .i64 (bg s.target)] rfl w2.heap.size (Jz.out.alloc _) [8] w5.heap.size rfl (ay _ _) (by simp) (by have:=K5.out.size;simp;omega) (K5.out.alloc _) (Nat.le_refl _) ?_);intro a6 XD w6 mM mO _;have Gw:Hid (cZ w6 w2.heap.size 32 1 (.slice a6 2 XD) 2 [.int .i64 (bg s.target),.int .i64 (8)]):=mM;have K6:=ah mO;clear mM mO;clear c0 c1 c2 c3 c4 c5 c6 c7 c8 c9 c10 c11 c12 c13 c14 c15 c16 c17 c18 c19 c20 c21 eu c23;obtain ⟨c0,c1,c2,c3,c4,c5,c6,c7,c8,c9,c10,c11,c12,c13,c14,c15,c16,c17,c18,c19,c20,c21,eu,c23⟩:=(HB2.out.kept K6.out (fun h=>h)).cells)
        refine (rX s.value _ S _ (yU.out.rF K6.out SS.out) (SS.out.mono K6.out.size) (by have:=HZ.out.value.t;omega)).mono ?_
        rintro e w7 ⟨rfl,k_⟩
        have K7:=ah (K6.out.trans k_)
        have P6:=ah (Gw.out.kept k_ (fun _ _ h=>h))
        clear k_
        clear c0 c1 c2 c3 c4 c5 c6 c7 c8 c9 c10 c11 c12 c13 c14 c15 c16 c17 c18 c19 c20 c21 eu c23;obtain ⟨c0,c1,c2,c3,c4,c5,c6,c7,c8,c9,c10,c11,c12,c13,c14,c15,c16,c17,c18,c19,c20,c21,eu,c23⟩:=(HB2.out.kept K7.out (fun h=>h)).cells
        go_wp2_with (at_builtin;go_loud (refine jZ (w0:=w2) rfl _ _ rfl (.slice a6 2 XD) 2 [.int .i64 (bg s.target),.int .i64 (8)] rfl w2.heap.size (P6.out.alloc _) [bg s.value] w7.heap.size rfl (ay _ _) (by simp) (by have:=K7.out.size;simp;omega) (K7.out.alloc _) (Nat.le_refl _) ?_);intro a8 XE w8 mM mO _;have XF:Hid (cZ w8 w2.heap.size 32 1 (.slice a8 3 XE) 3 [.int .i64 (bg s.target),.int .i64 (8),.int .i64 (bg s.value)]):=mM;have K8:=ah mO;clear mM mO;clear c0 c1 c2 c3 c4 c5 c6 c7 c8 c9 c10 c11 c12 c13 c14 c15 c16 c17 c18 c19 c20 c21 eu c23;obtain ⟨c0,c1,c2,c3,c4,c5,c6,c7,c8,c9,c10,c11,c12,c13,c14,c15,c16,c17,c18,c19,c20,c21,eu,c23⟩:=(HB2.out.kept K8.out (fun h=>h)).cells)
        go_meet
        exact ⟨[bg s.target,8,bg s.value],a8,XE,rfl,by simp,XF.out,EK,K8.out⟩
      have n3:=hkd;clear hkd
      by_cases hkd:s.kind=5
      ·have z1:(s.kind==1)=false:=by rw [hkd];rfl
       have z2:(s.kind==2)=false:=by rw [hkd];rfl
       have z4:(s.kind==4)=false:=by rw [hkd];rfl
       have z3:(s.kind==3)=false:=by rw [hkd];rfl
       have z5:(s.kind==5)=true:=by rw [hkd];rfl
       have z5':(s.kind==5)=true:=by rw [hkd];rfl
       have XA:=ah hkd
       clear hkd
       go_wp2_with fail
       refine (rX s.target _ S _ (Dl.out.rF Jy.out SS.out) (SS.out.mono Jy.out.size) (by have:=HZ.out.target.t;omega)).mono ?_
       rintro e w3 ⟨rfl,k_⟩
       have K3:=ah (Jy.out.trans k_)
       clear k_
       clear c0 c1 c2 c3 c4 c5 c6 c7 c8 c9 c10 c11 c12 c13 c14 c15 c16 c17 c18 c19 c20 c21 eu c23;obtain ⟨c0,c1,c2,c3,c4,c5,c6,c7,c8,c9,c10,c11,c12,c13,c14,c15,c16,c17,c18,c19,c20,c21,eu,c23⟩:=(HB2.out.kept K3.out (fun h=>h)).cells
       go_wp2_with (at_builtin;go_loud (refine jZ (w0:=w2) rfl _ _ rfl (.slice none 0 0) 0 [] rfl w2.heap.size (cZ.nil ..) [bg s.target] w3.heap.size rfl (ay _ _) (by simp) (by have:=K3.out.size;simp;omega) (K3.out.alloc _) (Nat.le_refl _) ?_);intro a4 uI w4 mM mO _;have zA:Hid (cZ w4 w2.heap.size 32 1 (.slice a4 1 uI) 1 [.int .i64 (bg s.target)]):=mM;have K4:=ah mO;clear mM mO;clear c0 c1 c2 c3 c4 c5 c6 c7 c8 c9 c10 c11 c12 c13 c14 c15 c16 c17 c18 c19 c20 c21 eu c23;obtain ⟨c0,c1,c2,c3,c4,c5,c6,c7,c8,c9,c10,c11,c12,c13,c14,c15,c16,c17,c18,c19,c20,c21,eu,c23⟩:=(HB2.out.kept K4.out (fun h=>h)).cells)
       refine (Jv s.target _ S _ (Dl.out.rF K4.out SS.out)).mono ?_
       rintro e w5 ⟨rfl,k_⟩
       have K5:=ah (K4.out.trans k_)
       have Jz:=ah (zA.out.kept k_ (fun _ _ h=>h))
       clear k_
       clear c0 c1 c2 c3 c4 c5 c6 c7 c8 c9 c10 c11 c12 c13 c14 c15 c16 c17 c18 c19 c20 c21 eu c23;obtain ⟨c0,c1,c2,c3,c4,c5,c6,c7,c8,c9,c10,c11,c12,c13,c14,c15,c16,c17,c18,c19,c20,c21,eu,c23⟩:=(HB2.out.kept K5.out (fun h=>h)).cells
       by_cases ht:isTarget s.target
       ·have EK:Hid (lF s=gy [bg s.target,bJ s.pat,bg s.value]):=by have hkd:=XA.out;unfold Hid;unfold lF;rw [if_neg (by omega),if_neg (by omega),if_neg (by omega),if_neg (by omega),if_pos hkd];rw [if_pos ht];simp [gy]
        have hb:decide (isTarget s.target)=true:=ak ht
        rw [hb]
        clear hb ht
        go_wp2_with fail
        refine (xO s.pat _ _ ((Nj.out.rF K5.out SS.out).all (SS.out.mono K5.out.size)) (by have:=HZ.out.pat.t;omega)).mono ?_
        rintro e w6 ⟨rfl,k_⟩
        have K6:=ah (K5.out.trans k_)
        have Gw:=ah (Jz.out.kept k_ (fun _ _ h=>h))
        clear k_
        clear c0 c1 c2 c3 c4 c5 c6 c7 c8 c9 c10 c11 c12 c13 c14 c15 c16 c17 c18 c19 c20 c21 eu c23;obtain ⟨c0,c1,c2,c3,c4,c5,c6,c7,c8,c9,c10,c11,c12,c13,c14,c15,c16,c17,c18,c19,c20,c21,eu,c23⟩:=(HB2.out.kept K6.out (fun h=>h)).cells
        go_wp2_with (at_builtin;go_loud (refine jZ (w0:=w2) rfl _ _ rfl (.slice a4 1 uI) 1 [.int .i64 (bg s.target)] rfl w2.heap.size (Gw.out.alloc _) [bJ s.pat] w6.heap.size rfl (ay _ _) (by simp) (by have:=K6.out.size;simp;omega) (K6.out.alloc _) (Nat.le_refl _) ?_);intro a7 XC w7 mM mO _;have P6:Hid (cZ w7 w2.heap.size 32 1 (.slice a7 2 XC) 2 [.int .i64 (bg s.target),.int .i64 (bJ s.pat)]):=mM;have K7:=ah mO;clear mM mO;clear c0 c1 c2 c3 c4 c5 c6 c7 c8 c9 c10 c11 c12 c13 c14 c15 c16 c17 c18 c19 c20 c21 eu c23;obtain ⟨c0,c1,c2,c3,c4,c5,c6,c7,c8,c9,c10,c11,c12,c13,c14,c15,c16,c17,c18,c19,c20,c21,eu,c23⟩:=(HB2.out.kept K7.out (fun h=>h)).cells)
        refine (rX s.value _ S _ (yU.out.rF K7.out SS.out) (SS.out.mono K7.out.size) (by have:=HZ.out.value.t;omega)).mono ?_
        rintro e w8 ⟨rfl,k_⟩
        have K8:=ah (K7.out.trans k_)
        have XF:=ah (P6.out.kept k_ (fun _ _ h=>h))
        clear k_
        clear c0 c1 c2 c3 c4 c5 c6 c7 c8 c9 c10 c11 c12 c13 c14 c15 c16 c17 c18 c19 c20 c21 eu c23;obtain ⟨c0,c1,c2,c3,c4,c5,c6,c7,c8,c9,c10,c11,c12,c13,c14,c15,c16,c17,c18,c19,c20,c21,eu,c23⟩:=(HB2.out.kept K8.out (fun h=>h)).cells
        go_wp2_with (at_builtin;go_loud (refine jZ (w0:=w2) rfl _ _ rfl (.slice a7 2 XC) 2 [.int .i64 (bg s.target),.int .i64 (bJ s.pat)] rfl w2.heap.size (XF.out.alloc _) [bg s.value] w8.heap.size rfl (ay _ _) (by simp) (by have:=K8.out.size;simp;omega) (K8.out.alloc _) (Nat.le_refl _) ?_);intro a9 c_9 w9 mM mO _;have HW9:Hid (cZ w9 w2.heap.size 32 1 (.slice a9 3 c_9) 3 [.int .i64 (bg s.target),.int .i64 (bJ s.pat),.int .i64 (bg s.value)]):=mM;have K9:=ah mO;clear mM mO;clear c0 c1 c2 c3 c4 c5 c6 c7 c8 c9 c10 c11 c12 c13 c14 c15 c16 c17 c18 c19 c20 c21 eu c23;obtain ⟨c0,c1,c2,c3,c4,c5,c6,c7,c8,c9,c10,c11,c12,c13,c14,c15,c16,c17,c18,c19,c20,c21,eu,c23⟩:=(HB2.out.kept K9.out (fun h=>h)).cells)
        go_meet
        exact ⟨[bg s.target,bJ s.pat,bg s.value],a9,c_9,rfl,by simp,HW9.out,EK,K9.out⟩
       ·have EK:Hid (lF s=gy [bg s.target,8,bJ s.pat,bg s.value]):=by have hkd:=XA.out;unfold Hid;unfold lF;rw [if_neg (by omega),if_neg (by omega),if_neg (by omega),if_neg (by omega),if_pos hkd];rw [if_neg ht]
        have hb:decide (isTarget s.target)=false:=au ht
        rw [hb]
        clear hb ht
        go_wp2_with (at_builtin;go_loud (refine jZ (w0:=w2) rfl _ _ rfl (.slice a4 1 uI) 1 [.int .i64 (bg s.target)] rfl w2.heap.size (Jz.out.alloc _) [8] w5.heap.size rfl (ay _ _) (by simp) (by have:=K5.out.size;simp;omega) (K5.out.alloc _) (Nat.le_refl _) ?_);intro a6 XD w6 mM mO _;have Gw:Hid (cZ w6 w2.heap.size 32 1 (.slice a6 2 XD) 2 [.int .i64 (bg s.target),.int .i64 (8)]):=mM;have K6:=ah mO;clear mM mO;clear c0 c1 c2 c3 c4 c5 c6 c7 c8 c9 c10 c11 c12 c13 c14 c15 c16 c17 c18 c19 c20 c21 eu c23;obtain ⟨c0,c1,c2,c3,c4,c5,c6,c7,c8,c9,c10,c11,c12,c13,c14,c15,c16,c17,c18,c19,c20,c21,eu,c23⟩:=(HB2.out.kept K6.out (fun h=>h)).cells)
        refine (xO s.pat _ _ ((Nj.out.rF K6.out SS.out).all (SS.out.mono K6.out.size)) (by have:=HZ.out.pat.t;omega)).mono ?_
        rintro e w7 ⟨rfl,k_⟩
        have K7:=ah (K6.out.trans k_)
        have P6:=ah (Gw.out.kept k_ (fun _ _ h=>h))
        clear k_
        clear c0 c1 c2 c3 c4 c5 c6 c7 c8 c9 c10 c11 c12 c13 c14 c15 c16 c17 c18 c19 c20 c21 eu c23;obtain ⟨c0,c1,c2,c3,c4,c5,c6,c7,c8,c9,c10,c11,c12,c13,c14,c15,c16,c17,c18,c19,c20,c21,eu,c23⟩:=(HB2.out.kept K7.out (fun h=>h)).cells
        go_wp2_with (at_builtin;go_loud (refine jZ (w0:=w2) rfl _ _ rfl (.slice a6 2 XD) 2 [.int .i64 (bg s.target),.int .i64 (8)] rfl w2.heap.size (P6.out.alloc _) [bJ s.pat] w7.heap.size rfl (ay _ _) (by simp) (by have:=K7.out.size;simp;omega) (K7.out.alloc _) (Nat.le_refl _) ?_);intro a8 XE w8 mM mO _;have XF:Hid (cZ w8 w2.heap.size 32 1 (.slice a8 3 XE) 3 [.int .i64 (bg s.target),.int .i64 (8),.int .i64 (bJ s.pat)]):=mM;have K8:=ah mO;clear mM mO;clear c0 c1 c2 c3 c4 c5 c6 c7 c8 c9 c10 c11 c12 c13 c14 c15 c16 c17 c18 c19 c20 c21 eu c23;obtain ⟨c0,c1,c2,c3,c4,c5,c6,c7,c8,c9,c10,c11,c12,c13,c14,c15,c16,c17,c18,c19,c20,c21,eu,c23⟩:=(HB2.out.kept K8.out (fun h=>h)).cells)
        refine (rX s.value _ S _ (yU.out.rF K8.out SS.out) (SS.out.mono K8.out.size) (by have:=HZ.out.value.t;omega)).mono ?_
        rintro e w9 ⟨rfl,k_⟩
        have K9:=ah (K8.out.trans k_)
        have HW9:=ah (XF.out.kept k_ (fun _ _ h=>h))
        clear k_
        clear c0 c1 c2 c3 c4 c5 c6 c7 c8 c9 c10 c11 c12 c13 c14 c15 c16 c17 c18 c19 c20 c21 eu c23;obtain ⟨c0,c1,c2,c3,c4,c5,c6,c7,c8,c9,c10,c11,c12,c13,c14,c15,c16,c17,c18,c19,c20,c21,eu,c23⟩:=(HB2.out.kept K9.out (fun h=>h)).cells
        go_wp2_with (at_builtin;go_loud (refine jZ (w0:=w2) rfl _ _ rfl (.slice a8 3 XE) 3 [.int .i64 (bg s.target),.int .i64 (8),.int .i64 (bJ s.pat)] rfl w2.heap.size (HW9.out.alloc _) [bg s.value] w9.heap.size rfl (ay _ _) (by simp) (by have:=K9.out.size;simp;omega) (K9.out.alloc _) (Nat.le_refl _) ?_);intro a10 adK w10 mM mO _;have afn:Hid (cZ w10 w2.heap.size 32 1 (.slice a10 4 adK) 4 [.int .i64 (bg s.target),.int .i64 (8),.int .i64 (bJ s.pat),.int .i64 (bg s.value)]):=mM;have K10:=ah mO;clear mM mO;clear c0 c1 c2 c3 c4 c5 c6 c7 c8 c9 c10 c11 c12 c13 c14 c15 c16 c17 c18 c19 c20 c21 eu c23;obtain ⟨c0,c1,c2,c3,c4,c5,c6,c7,c8,c9,c10,c11,c12,c13,c14,c15,c16,c17,c18,c19,c20,c21,eu,c23⟩:=(HB2.out.kept K10.out (fun h=>h)).cells)
        go_meet
        exact ⟨[bg s.target,8,bJ s.pat,bg s.value],a10,adK,rfl,by simp,afn.out,EK,K10.out⟩
      have n5:=hkd;clear hkd
      by_cases hkd:s.kind=6
      ·have z1:(s.kind==1)=false:=by rw [hkd];rfl
       have z2:(s.kind==2)=false:=by rw [hkd];rfl
       have z4:(s.kind==4)=false:=by rw [hkd];rfl
       have z3:(s.kind==3)=false:=by rw [hkd];rfl
       have z5:(s.kind==5)=false:=by rw [hkd];rfl
       have z6:(s.kind==6)=true:=by rw [hkd];rfl
       have EK:Hid (lF s=gy [aK [s.name],bJ s.pat]):=by unfold Hid;unfold lF;rw [if_neg (by omega),if_neg (by omega),if_neg (by omega),if_neg (by omega),if_neg (by omega),if_pos hkd]
       clear hkd
       go_upto_region 26 with fail
       obtain ⟨Sp,hSp⟩:∃Sp:Nat→Value→World→Prop,Sp=(fun i v wx=>match i with
        | 0=>v=.slice none 0 0
        | 1=>v=.pointer (some ⟨w.heap.size,17,none⟩)
        | 2=>v=.string s.name
        | 3=>∃g,v=.slice (some ⟨g,0,none⟩) 1 1∧g<wx.heap.size∧wx.heap[g]?=some (.cells #[.string s.name] 9 (0,0))
        | 4=>v=.int .i64 (aK [s.name])
        | 5=>v=.pointer (some ⟨w.heap.size,12,none⟩)
        | 6=>v=.agg #[.int .i64 s.pat.kind,.string s.pat.text,.int .i64 s.pat.n,.string s.pat.name,.slice a.pa s.pat.kids.length a.pc]
        | 7=>v=.int .i64 (bJ s.pat)
        | 8=>∃g,v=.slice (some ⟨g,0,none⟩) 2 2∧g<wx.heap.size∧wx.heap[g]?=some (.cells #[.int .i64 (aK [s.name]),.int .i64 (bJ s.pat)] 32 (0,0))
        | 9=>∃a' c',v=.slice a' 2 c'∧cZ wx w2.heap.size 32 1 (.slice a' 2 c') 2 [.int .i64 (aK [s.name]),.int .i64 (bJ s.pat)]
        | _=>∃a' c',v=.slice a' 2 c'∧cZ wx w2.heap.size 32 1 (.slice a' 2 c') 2 [.int .i64 (aK [s.name]),.int .i64 (bJ s.pat)]):=⟨_,rfl⟩
       refine uZ Sp [99,100,101,102,103,104,105,106,107,108,5] (by kernel_rfl) (by kernel_rfl) (by kernel_rfl) (fun i v w w' h hk=>by
         subst hSp
         rcases i with _|_|_|_|_|_|_|_|_|_|_|i
         all_goals (first
          | exact h
          | (obtain ⟨g,h1,h2,h3⟩:=h;exact ⟨g,h1,Nat.lt_of_lt_of_le h2 hk.size,by rw [hk.block g h2 (fun h=>h)];exact h3⟩)
          | (obtain ⟨a,c,h1,h2⟩:=h;exact ⟨a,c,h1,h2.kept hk (fun _ _ h=>h)⟩))) ?_ ?_
       ·intro i o hi l x wy hI hlf haft
        have e1:x.eval (.tmp 1)=.pointer (some ⟨w.heap.size,0,none⟩):=hI.keep 1 _ rfl (by kernel_rfl)
        have hO2:=Sj.out
        have B3:=HB2.out.kept hI.kept (fun h=>h)
        clear c0 c1 c2 c3 c4 c5 c6 c7 c8 c9 c10 c11 c12 c13 c14 c15 c16 c17 c18 c19 c20 c21 eu c23
        obtain ⟨c0,c1,c2,c3,c4,c5,c6,c7,c8,c9,c10,c11,c12,c13,c14,c15,c16,c17,c18,c19,c20,c21,eu,c23⟩:=B3.cells
        rcases i with _|_|_|_|_|_|_|_|_|_|_|i
        all_goals (simp only [List.getElem?_toArray,List.getElem?_cons_zero,List.getElem?_cons_succ,List.getElem?_nil,Option.some.injEq,reduceCtorEq] at hi)
        all_goals subst hi
        ·have e5:x.eval (.tmp 5)=.slice none 0 0:=hI.late hlf 10 5 rfl rfl rfl _ rfl
         refine bU (v:=.slice none 0 0) ?_ (by subst hSp;exact rfl)
         simp only [execOp,resolve,invoke,List.map_toArray,List.map_cons,List.map_nil,e5];go_simp
        ·refine bU (v:=.pointer (some ⟨w.heap.size,17,none⟩)) ?_ (by subst hSp;exact rfl)
         simp only [execOp,resolve,invoke,List.map_toArray,List.map_cons,List.map_nil,e1];go_simp
        ·have afo:x.eval (.tmp 100)=.pointer (some ⟨w.heap.size,17,none⟩):=by have h_:=hI.dep haft 1 100 rfl rfl rfl;rw [hSp] at h_;exact h_
         refine bU (v:=.string s.name) ?_ (by subst hSp;exact rfl)
         simp only [execOp,resolve,invoke,List.map_toArray,List.map_cons,List.map_nil,afo];go_simp
        ·have afp:x.eval (.tmp 101)=.string s.name:=by have h_:=hI.dep haft 2 101 rfl rfl rfl;rw [hSp] at h_;exact h_
         refine BA (v:=.slice (some ⟨wy.heap.size,0,none⟩) 1 1) (w':=wy.alloc (.cells #[.string s.name] 9)) ?_ ((Kept.refl _ _).alloc _) (by subst hSp;exact ⟨_,rfl,by simp,ay _ _⟩)
         simp only [execOp,resolve,invoke,List.map_toArray,List.map_cons,List.map_nil,afp];go_simp
        ·have afq:∃g,x.eval (.tmp 102)=.slice (some ⟨g,0,none⟩) 1 1∧g<wy.heap.size∧wy.heap[g]?=some (.cells #[.string s.name] 9 (0,0)):=by have h_:=hI.dep haft 3 102 rfl rfl rfl;rw [hSp] at h_;exact h_
         obtain ⟨g,hv,_,hg⟩:=afq
         refine nU (f:=30) (args:=#[.slice (some ⟨g,0,none⟩) 1 1]) ?_ ?_
         ·simp only [execOp,resolve,invoke,List.map_toArray,List.map_cons,List.map_nil,hv];go_simp
         ·exact (wL [s.name] _ 1 (· = g) _ (Dk hg rfl) ⟨by simp,by intro y hy;simp only [List.mem_singleton] at hy;subst hy;exact HZ.out.name⟩).mono fun e w' h=>⟨_,h.1,by subst hSp;exact rfl,by rw [h.2];exact Kept.refl _ _⟩
        ·refine bU (v:=.pointer (some ⟨w.heap.size,12,none⟩)) ?_ (by subst hSp;exact rfl)
         simp only [execOp,resolve,invoke,List.map_toArray,List.map_cons,List.map_nil,e1];go_simp
        ·have YA:x.eval (.tmp 104)=.pointer (some ⟨w.heap.size,12,none⟩):=by have h_:=hI.dep haft 5 104 rfl rfl rfl;rw [hSp] at h_;exact h_
         refine bU (v:=.agg #[.int .i64 s.pat.kind,.string s.pat.text,.int .i64 s.pat.n,.string s.pat.name,.slice a.pa s.pat.kids.length a.pc]) ?_ (by subst hSp;exact rfl)
         simp only [execOp,resolve,invoke,List.map_toArray,List.map_cons,List.map_nil,YA];go_simp
        ·have YB:x.eval (.tmp 105)=.agg #[.int .i64 s.pat.kind,.string s.pat.text,.int .i64 s.pat.n,.string s.pat.name,.slice a.pa s.pat.kids.length a.pc]:=by have h_:=hI.dep haft 6 105 rfl rfl rfl;rw [hSp] at h_;exact h_
         refine nU (f:=28) (args:=#[.agg #[.int .i64 s.pat.kind,.string s.pat.text,.int .i64 s.pat.n,.string s.pat.name,.slice a.pa s.pat.kids.length a.pc]]) ?_ ?_
         ·simp only [execOp,resolve,invoke,List.map_toArray,List.map_cons,List.map_nil,YB];go_simp
         ·exact (xO s.pat _ _ ((Nj.out.rF hI.kept SS.out).all (SS.out.mono hI.kept.size)) (by have:=HZ.out.pat.t;omega)).mono fun e w' h=>⟨_,h.1,by subst hSp;exact rfl,h.2⟩
        ·have YO:x.eval (.tmp 103)=.int .i64 (aK [s.name]):=by have h_:=hI.dep haft 4 103 rfl rfl rfl;rw [hSp] at h_;exact h_
         have YC:x.eval (.tmp 106)=.int .i64 (bJ s.pat):=by have h_:=hI.dep haft 7 106 rfl rfl rfl;rw [hSp] at h_;exact h_
         refine BA (v:=.slice (some ⟨wy.heap.size,0,none⟩) 2 2) (w':=wy.alloc (.cells #[.int .i64 (aK [s.name]),.int .i64 (bJ s.pat)] 32)) ?_ ((Kept.refl _ _).alloc _) (by subst hSp;exact ⟨_,rfl,by simp,ay _ _⟩)
         simp only [execOp,resolve,invoke,List.map_toArray,List.map_cons,List.map_nil,YO,YC];go_simp
        ·have d99:x.eval (.tmp 99)=.slice none 0 0:=by have h_:=hI.dep haft 0 99 rfl rfl rfl;rw [hSp] at h_;exact h_
         have YE:∃g,x.eval (.tmp 107)=.slice (some ⟨g,0,none⟩) 2 2∧g<wy.heap.size∧wy.heap[g]?=some (.cells #[.int .i64 (aK [s.name]),.int .i64 (bJ s.pat)] 32 (0,0)):=by have h_:=hI.dep haft 8 107 rfl rfl rfl;rw [hSp] at h_;exact h_
         obtain ⟨g,hv,_,hg⟩:=YE
         exact Nq _ _ rfl d99 [aK [s.name],bJ s.pat] g hv hg (by simp) w2.heap.size hI.kept.size fun a' c' w' hW=>by subst hSp;exact ⟨a',c',rfl,hW⟩
        ·have YD:∃a' c',x.eval (.tmp 108)=.slice a' 2 c'∧cZ wy w2.heap.size 32 1 (.slice a' 2 c') 2 [.int .i64 (aK [s.name]),.int .i64 (bJ s.pat)]:=by have h_:=hI.dep haft 9 108 rfl rfl rfl;rw [hSp] at h_;exact h_
         obtain ⟨a',c',hv,hW⟩:=YD
         refine bU (v:=.slice a' 2 c') ?_ (by subst hSp;exact ⟨_,_,rfl,hW⟩)
         simp only [execOp,resolve,invoke,List.map_toArray,List.map_cons,List.map_nil,hv];go_simp
       ·intro f wy hK hS
        have MG:=hS 10 _ 5 rfl rfl
        rw [hSp] at MG
        obtain ⟨a4,uI,e5,MH⟩:=MG
        have zA:Hid (cZ wy w2.heap.size 32 1 (.slice a4 2 uI) 2 [.int .i64 (aK [s.name]),.int .i64 (bJ s.pat)]):=MH
        have K4:=ah hK
        clear hK hS MH
        clear c0 c1 c2 c3 c4 c5 c6 c7 c8 c9 c10 c11 c12 c13 c14 c15 c16 c17 c18 c19 c20 c21 eu c23;obtain ⟨c0,c1,c2,c3,c4,c5,c6,c7,c8,c9,c10,c11,c12,c13,c14,c15,c16,c17,c18,c19,c20,c21,eu,c23⟩:=(HB2.out.kept K4.out (fun h=>h)).cells
        simp only [kP,List.foldl_cons,List.foldl_nil,List.setIfInBounds_toArray,List.set_cons_zero,List.set_cons_succ,e5]
        clear e5
        go_wp2_with fail
        go_meet
        exact ⟨[aK [s.name],bJ s.pat],a4,uI,rfl,by simp,zA.out,EK,K4.out⟩
      have n6:=hkd;clear hkd
      by_cases hkd:s.kind=7
      ·have z1:(s.kind==1)=false:=by rw [hkd];rfl
       have z2:(s.kind==2)=false:=by rw [hkd];rfl
       have z4:(s.kind==4)=false:=by rw [hkd];rfl
       have z3:(s.kind==3)=false:=by rw [hkd];rfl
       have z5:(s.kind==5)=false:=by rw [hkd];rfl
       have z6:(s.kind==6)=false:=by rw [hkd];rfl
       have z7:(s.kind==7)=true:=by rw [hkd];rfl
       have EQ:Hid (lF s=gy [aK [s.name],aK s.params,aK s.locals,aK [s.entry],if 8<s.params.length∨8<s.locals.length then 5 else 0]):=by unfold Hid;unfold lF;rw [if_neg (by omega),if_neg (by omega),if_neg (by omega),if_neg (by omega),if_neg (by omega),if_neg (by omega),if_pos hkd]
       clear hkd
       go_upto_region 28 with fail
       obtain ⟨Sp,hSp⟩:∃Sp:Nat→Value→World→Prop,Sp=(fun i v wx=>match i with
        | 0=>v=.slice none 0 0
        | 1=>v=.pointer (some ⟨w.heap.size,17,none⟩)
        | 2=>v=.string s.name
        | 3=>∃g,v=.slice (some ⟨g,0,none⟩) 1 1∧g<wx.heap.size∧wx.heap[g]?=some (.cells #[.string s.name] 9 (0,0))
        | 4=>v=.int .i64 (aK [s.name])
        | 5=>v=.pointer (some ⟨w.heap.size,19,none⟩)
        | 6=>v=.slice a.ma s.params.length a.mc
        | 7=>v=.int .i64 (aK s.params)
        | 8=>v=.pointer (some ⟨w.heap.size,20,none⟩)
        | 9=>v=.slice a.la s.locals.length a.lc
        | 10=>v=.int .i64 (aK s.locals)
        | 11=>v=.pointer (some ⟨w.heap.size,18,none⟩)
        | 12=>v=.string s.entry
        | 13=>∃g,v=.slice (some ⟨g,0,none⟩) 1 1∧g<wx.heap.size∧wx.heap[g]?=some (.cells #[.string s.entry] 9 (0,0))
        | 14=>v=.int .i64 (aK [s.entry])
        | 15=>∃g,v=.slice (some ⟨g,0,none⟩) 4 4∧g<wx.heap.size∧wx.heap[g]?=some (.cells #[.int .i64 (aK [s.name]),.int .i64 (aK s.params),.int .i64 (aK s.locals),.int .i64 (aK [s.entry])] 32 (0,0))
        | 16=>∃a' c',v=.slice a' 4 c'∧cZ wx w2.heap.size 32 1 (.slice a' 4 c') 4 [.int .i64 (aK [s.name]),.int .i64 (aK s.params),.int .i64 (aK s.locals),.int .i64 (aK [s.entry])]
        | _=>∃a' c',v=.slice a' 4 c'∧cZ wx w2.heap.size 32 1 (.slice a' 4 c') 4 [.int .i64 (aK [s.name]),.int .i64 (aK s.params),.int .i64 (aK s.locals),.int .i64 (aK [s.entry])]):=⟨_,rfl⟩
       refine uZ Sp [111,112,113,114,115,116,117,118,119,120,121,122,123,124,125,126,127,5] (by kernel_rfl) (by kernel_rfl) (by kernel_rfl) (fun i v w w' h hk=>by
         subst hSp
         rcases i with _|_|_|_|_|_|_|_|_|_|_|_|_|_|_|_|_|_|i
         all_goals (first
          | exact h
          | (obtain ⟨g,h1,h2,h3⟩:=h;exact ⟨g,h1,Nat.lt_of_lt_of_le h2 hk.size,by rw [hk.block g h2 (fun h=>h)];exact h3⟩)
          | (obtain ⟨a,c,h1,h2⟩:=h;exact ⟨a,c,h1,h2.kept hk (fun _ _ h=>h)⟩))) ?_ ?_
       ·intro i o hi l x wy hI hlf haft
        have e1:x.eval (.tmp 1)=.pointer (some ⟨w.heap.size,0,none⟩):=hI.keep 1 _ rfl (by kernel_rfl)
        have hO2:=Sj.out
        have B3:=HB2.out.kept hI.kept (fun h=>h)
        clear c0 c1 c2 c3 c4 c5 c6 c7 c8 c9 c10 c11 c12 c13 c14 c15 c16 c17 c18 c19 c20 c21 eu c23
        obtain ⟨c0,c1,c2,c3,c4,c5,c6,c7,c8,c9,c10,c11,c12,c13,c14,c15,c16,c17,c18,c19,c20,c21,eu,c23⟩:=B3.cells
        rcases i with _|_|_|_|_|_|_|_|_|_|_|_|_|_|_|_|_|_|i
        all_goals (simp only [List.getElem?_toArray,List.getElem?_cons_zero,List.getElem?_cons_succ,List.getElem?_nil,Option.some.injEq,reduceCtorEq] at hi)
        all_goals subst hi
        ·have e5:x.eval (.tmp 5)=.slice none 0 0:=hI.late hlf 17 5 rfl rfl rfl _ rfl
         refine bU (v:=.slice none 0 0) ?_ (by subst hSp;exact rfl)
         simp only [execOp,resolve,invoke,List.map_toArray,List.map_cons,List.map_nil,e5];go_simp
        ·refine bU (v:=.pointer (some ⟨w.heap.size,17,none⟩)) ?_ (by subst hSp;exact rfl)
         simp only [execOp,resolve,invoke,List.map_toArray,List.map_cons,List.map_nil,e1];go_simp
        ·have YI:x.eval (.tmp 112)=.pointer (some ⟨w.heap.size,17,none⟩):=by have h_:=hI.dep haft 1 112 rfl rfl rfl;rw [hSp] at h_;exact h_
         refine bU (v:=.string s.name) ?_ (by subst hSp;exact rfl)
         simp only [execOp,resolve,invoke,List.map_toArray,List.map_cons,List.map_nil,YI];go_simp
        ·have YG:x.eval (.tmp 113)=.string s.name:=by have h_:=hI.dep haft 2 113 rfl rfl rfl;rw [hSp] at h_;exact h_
         refine BA (v:=.slice (some ⟨wy.heap.size,0,none⟩) 1 1) (w':=wy.alloc (.cells #[.string s.name] 9)) ?_ ((Kept.refl _ _).alloc _) (by subst hSp;exact ⟨_,rfl,by simp,ay _ _⟩)
         simp only [execOp,resolve,invoke,List.map_toArray,List.map_cons,List.map_nil,YG];go_simp
        ·have YH:∃g,x.eval (.tmp 114)=.slice (some ⟨g,0,none⟩) 1 1∧g<wy.heap.size∧wy.heap[g]?=some (.cells #[.string s.name] 9 (0,0)):=by have h_:=hI.dep haft 3 114 rfl rfl rfl;rw [hSp] at h_;exact h_
         obtain ⟨g,hv,_,hg⟩:=YH
         refine nU (f:=30) (args:=#[.slice (some ⟨g,0,none⟩) 1 1]) ?_ ?_
         ·simp only [execOp,resolve,invoke,List.map_toArray,List.map_cons,List.map_nil,hv];go_simp
         ·exact (wL [s.name] _ 1 (· = g) _ (Dk hg rfl) ⟨by simp,by intro y hy;simp only [List.mem_singleton] at hy;subst hy;exact HZ.out.name⟩).mono fun e w' h=>⟨_,h.1,by subst hSp;exact rfl,by rw [h.2];exact Kept.refl _ _⟩
        ·refine bU (v:=.pointer (some ⟨w.heap.size,19,none⟩)) ?_ (by subst hSp;exact rfl)
         simp only [execOp,resolve,invoke,List.map_toArray,List.map_cons,List.map_nil,e1];go_simp
        ·have YK:x.eval (.tmp 116)=.pointer (some ⟨w.heap.size,19,none⟩):=by have h_:=hI.dep haft 5 116 rfl rfl rfl;rw [hSp] at h_;exact h_
         refine bU (v:=.slice a.ma s.params.length a.mc) ?_ (by subst hSp;exact rfl)
         simp only [execOp,resolve,invoke,List.map_toArray,List.map_cons,List.map_nil,YK];go_simp
        ·have YM:x.eval (.tmp 117)=.slice a.ma s.params.length a.mc:=by have h_:=hI.dep haft 6 117 rfl rfl rfl;rw [hSp] at h_;exact h_
         refine nU (f:=30) (args:=#[.slice a.ma s.params.length a.mc]) ?_ ?_
         ·simp only [execOp,resolve,invoke,List.map_toArray,List.map_cons,List.map_nil,YM];go_simp
         ·exact (wL s.params _ _ S _ (hO2.params.to hI.kept SS.out (fun _ h=>h)) HZ.out.params).mono fun e w' h=>⟨_,h.1,by subst hSp;exact rfl,by rw [h.2];exact Kept.refl _ _⟩
        ·refine bU (v:=.pointer (some ⟨w.heap.size,20,none⟩)) ?_ (by subst hSp;exact rfl)
         simp only [execOp,resolve,invoke,List.map_toArray,List.map_cons,List.map_nil,e1];go_simp
        ·have YN:x.eval (.tmp 119)=.pointer (some ⟨w.heap.size,20,none⟩):=by have h_:=hI.dep haft 8 119 rfl rfl rfl;rw [hSp] at h_;exact h_
         refine bU (v:=.slice a.la s.locals.length a.lc) ?_ (by subst hSp;exact rfl)
         simp only [execOp,resolve,invoke,List.map_toArray,List.map_cons,List.map_nil,YN];go_simp
        ·have YP:x.eval (.tmp 120)=.slice a.la s.locals.length a.lc:=by have h_:=hI.dep haft 9 120 rfl rfl rfl;rw [hSp] at h_;exact h_
         refine nU (f:=30) (args:=#[.slice a.la s.locals.length a.lc]) ?_ ?_
         ·simp only [execOp,resolve,invoke,List.map_toArray,List.map_cons,List.map_nil,YP];go_simp
         ·exact (wL s.locals _ _ S _ (hO2.locals.to hI.kept SS.out (fun _ h=>h)) HZ.out.locals).mono fun e w' h=>⟨_,h.1,by subst hSp;exact rfl,by rw [h.2];exact Kept.refl _ _⟩
        ·refine bU (v:=.pointer (some ⟨w.heap.size,18,none⟩)) ?_ (by subst hSp;exact rfl)
         simp only [execOp,resolve,invoke,List.map_toArray,List.map_cons,List.map_nil,e1];go_simp
        ·have afr:x.eval (.tmp 122)=.pointer (some ⟨w.heap.size,18,none⟩):=by have h_:=hI.dep haft 11 122 rfl rfl rfl;rw [hSp] at h_;exact h_
         refine bU (v:=.string s.entry) ?_ (by subst hSp;exact rfl)
         simp only [execOp,resolve,invoke,List.map_toArray,List.map_cons,List.map_nil,afr];go_simp
        ·have afs:x.eval (.tmp 123)=.string s.entry:=by have h_:=hI.dep haft 12 123 rfl rfl rfl;rw [hSp] at h_;exact h_
         refine BA (v:=.slice (some ⟨wy.heap.size,0,none⟩) 1 1) (w':=wy.alloc (.cells #[.string s.entry] 9)) ?_ ((Kept.refl _ _).alloc _) (by subst hSp;exact ⟨_,rfl,by simp,ay _ _⟩)
         simp only [execOp,resolve,invoke,List.map_toArray,List.map_cons,List.map_nil,afs];go_simp
        ·have aft:∃g,x.eval (.tmp 124)=.slice (some ⟨g,0,none⟩) 1 1∧g<wy.heap.size∧wy.heap[g]?=some (.cells #[.string s.entry] 9 (0,0)):=by have h_:=hI.dep haft 13 124 rfl rfl rfl;rw [hSp] at h_;exact h_
         obtain ⟨g,hv,_,hg⟩:=aft
         refine nU (f:=30) (args:=#[.slice (some ⟨g,0,none⟩) 1 1]) ?_ ?_
         ·simp only [execOp,resolve,invoke,List.map_toArray,List.map_cons,List.map_nil,hv];go_simp
         ·exact (wL [s.entry] _ 1 (· = g) _ (Dk hg rfl) ⟨by simp,by intro y hy;simp only [List.mem_singleton] at hy;subst hy;exact HZ.out.entry⟩).mono fun e w' h=>⟨_,h.1,by subst hSp;exact rfl,by rw [h.2];exact Kept.refl _ _⟩
        ·have YJ:x.eval (.tmp 115)=.int .i64 (aK [s.name]):=by have h_:=hI.dep haft 4 115 rfl rfl rfl;rw [hSp] at h_;exact h_
         have YL:x.eval (.tmp 118)=.int .i64 (aK s.params):=by have h_:=hI.dep haft 7 118 rfl rfl rfl;rw [hSp] at h_;exact h_
         have YQ:x.eval (.tmp 121)=.int .i64 (aK s.locals):=by have h_:=hI.dep haft 10 121 rfl rfl rfl;rw [hSp] at h_;exact h_
         have afu:x.eval (.tmp 125)=.int .i64 (aK [s.entry]):=by have h_:=hI.dep haft 14 125 rfl rfl rfl;rw [hSp] at h_;exact h_
         refine BA (v:=.slice (some ⟨wy.heap.size,0,none⟩) 4 4) (w':=wy.alloc (.cells #[.int .i64 (aK [s.name]),.int .i64 (aK s.params),.int .i64 (aK s.locals),.int .i64 (aK [s.entry])] 32)) ?_ ((Kept.refl _ _).alloc _) (by subst hSp;exact ⟨_,rfl,by simp,ay _ _⟩)
         simp only [execOp,resolve,invoke,List.map_toArray,List.map_cons,List.map_nil,YJ,YL,YQ,afu];go_simp
        ·have YF:x.eval (.tmp 111)=.slice none 0 0:=by have h_:=hI.dep haft 0 111 rfl rfl rfl;rw [hSp] at h_;exact h_
         have afv:∃g,x.eval (.tmp 126)=.slice (some ⟨g,0,none⟩) 4 4∧g<wy.heap.size∧wy.heap[g]?=some (.cells #[.int .i64 (aK [s.name]),.int .i64 (aK s.params),.int .i64 (aK s.locals),.int .i64 (aK [s.entry])] 32 (0,0)):=by have h_:=hI.dep haft 15 126 rfl rfl rfl;rw [hSp] at h_;exact h_
         obtain ⟨g,hv,_,hg⟩:=afv
         exact Nq _ _ rfl YF [aK [s.name],aK s.params,aK s.locals,aK [s.entry]] g hv hg (by simp) w2.heap.size hI.kept.size fun a' c' w' hW=>by subst hSp;exact ⟨a',c',rfl,hW⟩
        ·have afw:∃a' c',x.eval (.tmp 127)=.slice a' 4 c'∧cZ wy w2.heap.size 32 1 (.slice a' 4 c') 4 [.int .i64 (aK [s.name]),.int .i64 (aK s.params),.int .i64 (aK s.locals),.int .i64 (aK [s.entry])]:=by have h_:=hI.dep haft 16 127 rfl rfl rfl;rw [hSp] at h_;exact h_
         obtain ⟨a',c',hv,hW⟩:=afw
         refine bU (v:=.slice a' 4 c') ?_ (by subst hSp;exact ⟨_,_,rfl,hW⟩)
         simp only [execOp,resolve,invoke,List.map_toArray,List.map_cons,List.map_nil,hv];go_simp
       ·intro f wy hK hS
        have MG:=hS 17 _ 5 rfl rfl
        rw [hSp] at MG
        obtain ⟨a4,uI,e5,MH⟩:=MG
        have zA:Hid (cZ wy w2.heap.size 32 1 (.slice a4 4 uI) 4 [.int .i64 (aK [s.name]),.int .i64 (aK s.params),.int .i64 (aK s.locals),.int .i64 (aK [s.entry])]):=MH
        have K4:=ah hK
        clear hK hS MH
        clear c0 c1 c2 c3 c4 c5 c6 c7 c8 c9 c10 c11 c12 c13 c14 c15 c16 c17 c18 c19 c20 c21 eu c23;obtain ⟨c0,c1,c2,c3,c4,c5,c6,c7,c8,c9,c10,c11,c12,c13,c14,c15,c16,c17,c18,c19,c20,c21,eu,c23⟩:=(HB2.out.kept K4.out (fun h=>h)).cells
        simp only [kP,List.foldl_cons,List.foldl_nil,List.setIfInBounds_toArray,List.set_cons_zero,List.set_cons_succ,e5]
        clear e5
        rcases (show (8<s.params.length∨8<s.locals.length)∨¬(8<s.params.length∨8<s.locals.length) from Classical.em _) with hm|hm
        ·have EK:Hid (lF s=gy [aK [s.name],aK s.params,aK s.locals,aK [s.entry],5]):=by unfold Hid;rw [EQ.out,if_pos hm]
         rcases (show 8<s.params.length∨(¬8<s.params.length∧8<s.locals.length) by omega) with hp|⟨hp,hq⟩
         ·have x1:decide ((8:Int)<(s.params.length:Int))=true:=ak (by omega)
          clear hm hp
          go_wp2_with (at_builtin;go_loud (refine jZ (w0:=w2) rfl _ _ rfl (.slice a4 4 uI) 4 [.int .i64 (aK [s.name]),.int .i64 (aK s.params),.int .i64 (aK s.locals),.int .i64 (aK [s.entry])] rfl w2.heap.size (zA.out.alloc _) [5] wy.heap.size rfl (ay _ _) (by simp) (by have:=K4.out.size;simp;omega) (K4.out.alloc _) (Nat.le_refl _) ?_);intro a5 XG w5 mM mO _;have Jz:Hid (cZ w5 w2.heap.size 32 1 (.slice a5 5 XG) 5 [.int .i64 (aK [s.name]),.int .i64 (aK s.params),.int .i64 (aK s.locals),.int .i64 (aK [s.entry]),.int .i64 (5)]):=mM;have K5:=ah mO;clear mM mO;clear c0 c1 c2 c3 c4 c5 c6 c7 c8 c9 c10 c11 c12 c13 c14 c15 c16 c17 c18 c19 c20 c21 eu c23;obtain ⟨c0,c1,c2,c3,c4,c5,c6,c7,c8,c9,c10,c11,c12,c13,c14,c15,c16,c17,c18,c19,c20,c21,eu,c23⟩:=(HB2.out.kept K5.out (fun h=>h)).cells)
          go_meet
          exact ⟨[aK [s.name],aK s.params,aK s.locals,aK [s.entry],5],a5,XG,rfl,by simp,Jz.out,EK,K5.out⟩
         ·have x1:decide ((8:Int)<(s.params.length:Int))=false:=au (by omega)
          have x2:decide ((8:Int)<(s.locals.length:Int))=true:=ak (by omega)
          clear hm hp hq
          go_wp2_with (at_builtin;go_loud (refine jZ (w0:=w2) rfl _ _ rfl (.slice a4 4 uI) 4 [.int .i64 (aK [s.name]),.int .i64 (aK s.params),.int .i64 (aK s.locals),.int .i64 (aK [s.entry])] rfl w2.heap.size (zA.out.alloc _) [5] wy.heap.size rfl (ay _ _) (by simp) (by have:=K4.out.size;simp;omega) (K4.out.alloc _) (Nat.le_refl _) ?_);intro a5 XG w5 mM mO _;have Jz:Hid (cZ w5 w2.heap.size 32 1 (.slice a5 5 XG) 5 [.int .i64 (aK [s.name]),.int .i64 (aK s.params),.int .i64 (aK s.locals),.int .i64 (aK [s.entry]),.int .i64 (5)]):=mM;have K5:=ah mO;clear mM mO;clear c0 c1 c2 c3 c4 c5 c6 c7 c8 c9 c10 c11 c12 c13 c14 c15 c16 c17 c18 c19 c20 c21 eu c23;obtain ⟨c0,c1,c2,c3,c4,c5,c6,c7,c8,c9,c10,c11,c12,c13,c14,c15,c16,c17,c18,c19,c20,c21,eu,c23⟩:=(HB2.out.kept K5.out (fun h=>h)).cells)
          go_meet
          exact ⟨[aK [s.name],aK s.params,aK s.locals,aK [s.entry],5],a5,XG,rfl,by simp,Jz.out,EK,K5.out⟩
        ·have EK:Hid (lF s=gy [aK [s.name],aK s.params,aK s.locals,aK [s.entry]]):=by unfold Hid;rw [EQ.out,if_neg hm];simp [gy]
         have x1:decide ((8:Int)<(s.params.length:Int))=false:=au (by omega)
         have x2:decide ((8:Int)<(s.locals.length:Int))=false:=au (by omega)
         clear hm
         go_wp2_with fail
         go_meet
         exact ⟨[aK [s.name],aK s.params,aK s.locals,aK [s.entry]],a4,uI,rfl,by simp,zA.out,EK,K4.out⟩
      have n7:=hkd;clear hkd
      have fin:Hid (lF s=1):=by unfold Hid lF;rw [if_neg n1,if_neg n2,if_neg n4,if_neg n3,if_neg n5,if_neg n6,if_neg n7]
      have z1:(s.kind==1)=false:=by simpa using n1
      have z2:(s.kind==2)=false:=by simpa using n2
      have z4:(s.kind==4)=false:=by simpa using n4
      have z3:(s.kind==3)=false:=by simpa using n3
      have z5:(s.kind==5)=false:=by simpa using n5
      have z6:(s.kind==6)=false:=by simpa using n6
      have z7:(s.kind==7)=false:=by simpa using n7
      clear n1 n2 n4 n3 n5 n6 n7
      go_wp2_with fail
      go_ret
      exact ⟨by rw [heq.out,fin.out];try rfl,qw.out⟩
     case rest =>
      obtain ⟨es,a3,c_3,rfl,hes,hW,EK,hK⟩:=hcut
      have K3:=ah (qw.out.trans hK)
      have HW:=ah hW
      have hq:=ah (heq.out.trans EK.out)
      clear hW hK HL
      clear c0 c1 c2 c3 c4 c5 c6 c7 c8 c9 c10 c11 c12 c13 c14 c15 c16 c17 c18 c19 c20 c21 eu c23
      go_wp2_with fail
      go_loop [143] (fun i=>∃j:Nat,j≤es.length∧i=.int .i64 j∧Hid (gy es=gy (es.drop j))) (fun i=>es.length-(intOf i).toNat)
      case atStart=>exact ⟨0,Nat.zero_le _,rfl,by unfold Hid;rw [List.drop_zero]⟩
      case round =>
       obtain ⟨j,hj,rfl,hno⟩:=hrel
       by_cases hlt:j<es.length
       ·rcases HW.out.cells with ⟨hv,h0⟩|⟨g,o,cap,hv,_,_,_,_,hc⟩
        ·omega
        ·simp only [Value.slice.injEq,true_and] at hv
         obtain ⟨rfl,rfl⟩:=hv
         obtain ⟨hcj,_⟩:=hc j (.int .i64 es[j]) (by rw [List.getElem?_map,List.getElem?_eq_getElem hlt];rfl)
         have hd:=Qq es j hlt
         clear hc
         by_cases hz:es[j]=0
         ·rw [if_pos hz] at hd
          have step:=ah (hno.out.trans hd)
          have hb:(es[j] != 0)=false:=by simpa using hz
          clear hd hz
          go_wp2_with fail
          go_round
          case rel=>exact ⟨j+1,by omega,by go_num,step⟩
          case measure=>simp [intOf];omega
         ·rw [if_neg hz] at hd
          have fin:=ah (hq.out.trans (hno.out.trans hd))
          have hb:(es[j] != 0)=true:=by simpa using hz
          clear hd hz
          go_wp2_with fail
          go_ret
          exact ⟨by rw [fin.out];try rfl,K3.out⟩
       ·obtain rfl:j=es.length:=by omega
        have fin:=ah (hq.out.trans (hno.out.trans (show gy (es.drop es.length)=0 by rw [List.drop_length,gy])))
        go_wp2_with fail
        go_ret
        exact ⟨by rw [fin.out];try rfl,K3.out⟩
end Go.Proofs.YtefjbnhpjdhjmaaGreatDoor
