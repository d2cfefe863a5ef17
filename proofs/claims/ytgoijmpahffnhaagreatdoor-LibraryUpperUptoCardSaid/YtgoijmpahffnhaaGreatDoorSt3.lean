/-  -/
import Derived.Test.YtgoijmpahffnhaaGreatDoorLq12
namespace Go.Proofs.YtgoijmpahffnhaaGreatDoor
set_option linter.all false
open Go.RowKit
set_option maxRecDepth 100000
set_option maxHeartbeats 4000000
def lu (s:aF):List aj:=[s.label,s.always,s.yes,s.bW]
def vS:List aj→Bool
 | []=>true
 | x::r=>vP x&&vS r
theorem aaR (l:List aj) (j:Nat) (h:j<l.length):vS (l.drop j)=(vP l[j]&&vS (l.drop (j+1))):=by
 rw [List.drop_eq_getElem_cons h,vS]
theorem aaS {s:aF} (h:qM s) (j:Nat) (hj:j<(lu s).length):((lu s)[j]).size<1000000000:=by
 have:∀x∈lu s,x.size<1000000000:=by
  intro x hx
  simp only [lu,List.mem_cons,List.not_mem_nil,or_false] at hx
  rcases hx with rfl|rfl|rfl|rfl
  ·exact h.label
  ·exact h.always
  ·exact h.yes
  ·exact h.bW
 exact this _ (List.getElem_mem hj)
theorem Tt {s:aF} (h:vS (lu s)=false):jO s=7:=by
 unfold jO
 rw [if_pos]
 simp only [lu,vS,Bool.and_true] at h
 intro hc
 rw [hc.1,hc.2.1,hc.2.2.1,hc.2.2.2] at h
 cases h
theorem MK {x:aj} {b:Bool} (h:vP x=b):(x.size=0∧x.toList.isEmpty=true∧b=true)∨(x.size≠0∧x.toList.isEmpty=false∧fV x=b):=by
 unfold vP at h
 by_cases h0:x.size=0
 ·exact .inl ⟨h0,qo.2 h0,by rw [←h];simp [h0]⟩
 ·exact .inr ⟨h0,jJ.2 (by omega),by rw [←h];simp [h0]⟩
def qA (s:aF):Bool:=!s.always.toList.isEmpty&&(!s.yes.toList.isEmpty||!s.bW.toList.isEmpty)
theorem aaT (s:aF):(s.always.toList.isEmpty=true∧qA s=false)∨(s.always.toList.isEmpty=false∧s.yes.toList.isEmpty=false∧qA s=true)∨
  (s.always.toList.isEmpty=false∧s.yes.toList.isEmpty=true∧s.bW.toList.isEmpty=false∧qA s=true)∨(s.always.toList.isEmpty=false∧s.yes.toList.isEmpty=true∧s.bW.toList.isEmpty=true∧qA s=false):=by
 unfold qA
 cases s.always.toList.isEmpty<;>cases s.yes.toList.isEmpty<;>cases s.bW.toList.isEmpty<;>simp
theorem Jk (s:aF):qA s=true↔s.always.size≠0∧(s.yes.size≠0∨s.bW.size≠0):=by
 unfold qA
 simp only [Bool.and_eq_true,Bool.or_eq_true,Bool.not_eq_true']
 rw [jJ,jJ,jJ]
 omega
theorem QF {s:aF} (h:vS (lu s)=true):vP s.label=true∧vP s.always=true∧vP s.yes=true∧vP s.bW=true:=by
 simpa [lu,vS] using h
theorem XA {s:aF} (h:vS (lu s)=true) (hb:qA s=true):jO s=8:=by
 unfold jO
 rw [if_neg (fun hc=>hc (QF h)),if_pos ((Jk s).1 hb)]
def iJ (s:aF):Int :=
 if s.kind=1 then 0
 else if s.kind=2 then aW s.value
 else if s.kind=4 then dL [aW s.value,bM s.pat]
 else if s.kind=3 then dL [aW s.target,if isTarget s.target then 0 else 8,aW s.value]
 else if s.kind=5 then dL [aW s.target,if isTarget s.target then 0 else 8,bM s.pat,aW s.value]
 else if s.kind=6 then dL [aJ [s.name],bM s.pat]
 else if s.kind=7 then dL [aJ [s.name],aJ s.params,aJ s.locals,aJ [s.entry],if 8<s.params.length∨8<s.locals.length then 5 else 0]
 else 1
theorem Tv {s:aF} (h:vS (lu s)=true) (hb:qA s=false):jO s=iJ s:=by
 unfold jO iJ
 rw [if_neg (fun hc=>hc (QF h)),if_neg (fun hc=>by rw [(Jk s).2 hc] at hb;cases hb)]
def aio (s:aF) (w0:World) (l:Value) (w:World):Prop :=
 ∃(es:List Int) (a:Option Addr) (c:Nat),l=.slice a es.length c∧es.length≤10∧aO w w0.heap.size 25 1 (.slice a es.length c) es.length (es.map (Value.int .i64))∧Hid (iJ s=dL es)∧Kept aA w0 w
theorem ac3 (s:aF) (v:Value) (S:Nat→Prop) (w:World) (hs:StV w S v s) (hS:Safe S aA w.heap.size):Calls Tryz.prog 59 #[v] w (abg (jO s) w):=by
 obtain ⟨a,rfl,hz,ho⟩:=hs
 unfold dO
 have B1:=bV.new w a s
 have k1:Kept aA w _:=(Kept.refl aA w).alloc (.cells (bQ a s).toArray 59)
 unfold bQ at k1
 generalize hw1:World.alloc w _=w1 at B1 k1
 have HB1:=ah B1;have uV:=ah k1;have HW1:=ah hw1
 obtain ⟨c0,c1,c2,c3,c4,c5,c6,c7,c8,c9,c10,c11,c12,c13,c14,c15,c16,c17,c18,c19,c20,c21,dU,c23⟩:=B1.cells
 have HZ:=ah hz
 have HO:=ah ho;have HS:=ah hS
 clear B1 k1 hw1 hz ho hS
 go_enter Tryz.func59, Tryz.ntmps59
 go_upto_region 1 with fail
 rw [HW1.out]
 go_upto_region 2 with fail
 obtain ⟨w2,hw2⟩:∃w2,w2=(w1.alloc (.cells #[.string s.label,.string s.always,.string s.yes,.string s.bW] 9)):=⟨_,rfl⟩
 rw [←hw2]
 have hrow:w2.heap[w1.heap.size]?=some (.cells ((lu s).map Value.string).toArray 9 (0,0)):=by rw [hw2];exact ay w1 _
 have k2:Kept aA w1 w2:=by rw [hw2];exact (Kept.refl aA _).alloc _
 have HL:Hid (aQ w2 (· = w1.heap.size) (some ⟨w1.heap.size,0,none⟩) (lu s)):=yI hrow rfl
 have HB2:=ah (HB1.out.kept k2 (fun h=>h));have CS:=ah (uV.out.trans k2)
 clear hrow hw2 k2 c0 c1 c2 c3 c4 c5 c6 c7 c8 c9 c10 c11 c12 c13 c14 c15 c16 c17 c18 c19 c20 c21 dU c23 HW1 HB1 uV
 go_loop [18] (fun i=>∃j:Nat,j≤4∧i=.int .i64 j∧Hid (vS (lu s)=vS ((lu s).drop j))) (fun i=>4-(intOf i).toNat)
 case atStart=>exact ⟨0,Nat.zero_le _,rfl,by unfold Hid;rw [List.drop_zero]⟩
 case round =>
  obtain ⟨j,hj,rfl,hno⟩:=hrel
  by_cases hlt:j<4
  ·have hcj:w2.cell? ⟨w1.heap.size,0+j,none⟩=some (.string (lu s)[j]):=by
    obtain ⟨b,o,e,_,hc⟩:=HL.out (by show 0<4;decide)
    simp only [Option.some.injEq,Addr.mk.injEq,and_true] at e
    obtain ⟨rfl,rfl⟩:=e
    exact hc j hlt
   rw [Nat.zero_add] at hcj
   have hd:=aaR (lu s) j hlt
   have hsz:=aaS HZ.out j hlt
   have hsl:((lu s)[j]).size≤maxLen:=by unfold maxLen;omega
   generalize (lu s)[j]=x at hcj hd hsz hsl
   have hn:=ah hno.out
   cases hb:vP x with
   | true =>
    rw [hb,Bool.true_and] at hd
    have step:=ah (hno.out.trans hd)
    rcases MK hb with ⟨_,e1,_⟩|⟨_,e1,e2⟩
    ·clear hd hb
     go_wp2_with fail
     go_round
     case rel=>exact ⟨j+1,by omega,by go_num,step⟩
     case measure=>simp [intOf];omega
    ·have E2:=ah e2
     clear hd hb e2
     go_wp2_with (go_at_call 93;(with_reducible refine (sD _ _ hsl).mono ?_);rintro e w' ⟨rfl,rfl⟩;rw [E2.out])
     go_round
     case rel=>exact ⟨j+1,by omega,by go_num,step⟩
     case measure=>simp [intOf];omega
   | false =>
    rw [hb,Bool.false_and] at hd
    have fin:=ah (Tt (hno.out.trans hd))
    rcases MK hb with ⟨_,_,e2⟩|⟨_,e1,e2⟩
    ·cases e2
    ·have E2:=ah e2
     clear hd hb e2
     go_wp2_with (go_at_call 93;(with_reducible refine (sD _ _ hsl).mono ?_);rintro e w' ⟨rfl,rfl⟩;rw [E2.out])
     go_ret
     exact ⟨by rw [fin.out];try rfl,CS.out⟩
  ·obtain rfl:j=4:=by omega
   have hlab:Hid (vS (lu s)=true):=by unfold Hid;rw [hno.out];rfl
   obtain ⟨c0,c1,c2,c3,c4,c5,c6,c7,c8,c9,c10,c11,c12,c13,c14,c15,c16,c17,c18,c19,c20,c21,dU,c23⟩:=HB2.out.cells
   go_upto_region 7 with fail
   go_cut [42] (fun c wx=>c=.bool (qA s)∧w2=wx)
   case first =>
    rcases aaT s with ⟨e1,e2⟩|⟨e1,e2,e3⟩|⟨e1,e2,e3,e4⟩|⟨e1,e2,e3,e4⟩
    all_goals
     clear HL HO HS HZ
     go_wp2_with fail
     go_meet
     exact ⟨by first|rw [e2]|rw [e3]|rw [e4],rfl⟩
   case rest =>
    obtain ⟨rfl,rfl⟩:=hcut
    cases hbad:qA s with
    | true =>
     have fin:=ah (XA hlab.out hbad)
     clear hbad
     go_wp2_with fail
     go_ret
     exact ⟨by rw [fin.out];try rfl,CS.out⟩
    | false =>
     have heq:=ah (Tv hlab.out hbad)
     clear hbad
     have UW:Hid (wQ w2 S a s):=HO.out.to CS.out HS.out (fun _ h=>h)
     go_upto_block 2 with fail
     go_cut [5] (fun l wx=>aio s w2 l wx)
     case first =>
      clear HL hj hno hlt hlab
      have CO:Hid (oV w2 S (.agg #[.int .i64 s.target.kind,.string s.target.text,.int .i64 s.target.n,.string s.target.name,.slice a.ta s.target.kids.length a.tc]) s.target):=⟨a.ta,a.tc,rfl,HZ.out.target.z,UW.out.target⟩
      have xW:Hid (oV w2 S (.agg #[.int .i64 s.value.kind,.string s.value.text,.int .i64 s.value.n,.string s.value.name,.slice a.va s.value.kids.length a.vc]) s.value):=⟨a.va,a.vc,rfl,HZ.out.value.z,UW.out.value⟩
      have Np:Hid (oV w2 S (.agg #[.int .i64 s.pat.kind,.string s.pat.text,.int .i64 s.pat.n,.string s.pat.name,.slice a.pa s.pat.kids.length a.pc]) s.pat):=⟨a.pa,a.pc,rfl,HZ.out.pat.z,UW.out.pat⟩
      have SS:Hid (Safe S aA w2.heap.size):=HS.out.mono CS.out.size
      have Jl:Hid (Kept aA w2 w2):=Kept.refl _ _
      by_cases hkd:s.kind=1
      ·have EK:Hid (iJ s=dL []):=by unfold Hid;unfold iJ;rw [if_pos hkd];rfl
       have z1:(s.kind==1)=true:=by rw [hkd];rfl
       clear hkd
       go_wp2_with fail
       go_meet
       exact ⟨[],none,0,rfl,by simp,aO.nil ..,EK,Kept.refl _ _⟩
      have n1:=hkd;clear hkd
      by_cases hkd:s.kind=2
      ·have EK:Hid (iJ s=dL [aW s.value]):=by unfold Hid;unfold iJ;rw [if_neg (by omega),if_pos hkd];simp [dL]
       have z1:(s.kind==1)=false:=by rw [hkd];rfl
       have z2:(s.kind==2)=true:=by rw [hkd];rfl
       clear hkd
       go_wp2_with fail
       refine (pJ s.value _ S _ (xW.out.o7 Jl.out SS.out) (SS.out.mono Jl.out.size) (by have:=HZ.out.value.t;omega)).mono ?_
       rintro e w3 ⟨rfl,k_⟩
       have K3:=ah (Jl.out.trans k_)
       clear k_
       clear c0 c1 c2 c3 c4 c5 c6 c7 c8 c9 c10 c11 c12 c13 c14 c15 c16 c17 c18 c19 c20 c21 dU c23;obtain ⟨c0,c1,c2,c3,c4,c5,c6,c7,c8,c9,c10,c11,c12,c13,c14,c15,c16,c17,c18,c19,c20,c21,dU,c23⟩:=(HB2.out.kept K3.out (fun h=>h)).cells
       go_wp2_with (at_builtin;go_loud (refine ig (w0:=w2) rfl _ _ rfl (.slice none 0 0) 0 [] rfl w2.heap.size (aO.nil ..) [aW s.value] w3.heap.size rfl (ay _ _) (by simp) (by have:=K3.out.size;simp;omega) (K3.out.alloc _) (Nat.le_refl _) ?_);intro a4 rF w4 jg jh _;have xw:Hid (aO w4 w2.heap.size 25 1 (.slice a4 1 rF) 1 [.int .i64 (aW s.value)]):=jg;have K4:=ah jh;clear jg jh;clear c0 c1 c2 c3 c4 c5 c6 c7 c8 c9 c10 c11 c12 c13 c14 c15 c16 c17 c18 c19 c20 c21 dU c23;obtain ⟨c0,c1,c2,c3,c4,c5,c6,c7,c8,c9,c10,c11,c12,c13,c14,c15,c16,c17,c18,c19,c20,c21,dU,c23⟩:=(HB2.out.kept K4.out (fun h=>h)).cells)
       go_meet
       exact ⟨[aW s.value],a4,rF,rfl,by simp,xw.out,EK,K4.out⟩
      have n2:=hkd;clear hkd
      by_cases hkd:s.kind=4
      ·have z1:(s.kind==1)=false:=by rw [hkd];rfl
       have z2:(s.kind==2)=false:=by rw [hkd];rfl
       have z4:(s.kind==4)=true:=by rw [hkd];rfl
       have EK:Hid (iJ s=dL [aW s.value,bM s.pat]):=by unfold Hid;unfold iJ;rw [if_neg (by omega),if_neg (by omega),if_pos hkd]
       clear hkd
       go_upto_region 16 with fail
       obtain ⟨Sp,hSp⟩:∃Sp:Nat→Value→World→Prop,Sp=(fun i v wx=>match i with
        | 0=>v=.slice none 0 0
        | 1=>v=.pointer (some ⟨w.heap.size,7,none⟩)
        | 2=>v=.agg #[.int .i64 s.value.kind,.string s.value.text,.int .i64 s.value.n,.string s.value.name,.slice a.va s.value.kids.length a.vc]
        | 3=>v=.int .i64 (aW s.value)
        | 4=>v=.pointer (some ⟨w.heap.size,12,none⟩)
        | 5=>v=.agg #[.int .i64 s.pat.kind,.string s.pat.text,.int .i64 s.pat.n,.string s.pat.name,.slice a.pa s.pat.kids.length a.pc]
        | 6=>v=.int .i64 (bM s.pat)
        | 7=>∃g,v=.slice (some ⟨g,0,none⟩) 2 2∧g<wx.heap.size∧wx.heap[g]?=some (.cells #[.int .i64 (aW s.value),.int .i64 (bM s.pat)] 25 (0,0))
        | 8=>∃a' c',v=.slice a' 2 c'∧aO wx w2.heap.size 25 1 (.slice a' 2 c') 2 [.int .i64 (aW s.value),.int .i64 (bM s.pat)]
        | _=>∃a' c',v=.slice a' 2 c'∧aO wx w2.heap.size 25 1 (.slice a' 2 c') 2 [.int .i64 (aW s.value),.int .i64 (bM s.pat)]):=⟨_,rfl⟩
       refine DR Sp [57,58,59,60,61,62,63,64,65,5] (by kernel_rfl) (by kernel_rfl) (by kernel_rfl) (fun i v w w' h hk=>by
         subst hSp
         rcases i with _|_|_|_|_|_|_|_|_|_|i
         all_goals (first
          | exact h
          | (obtain ⟨g,h1,h2,h3⟩:=h;exact ⟨g,h1,Nat.lt_of_lt_of_le h2 hk.size,by rw [hk.block g h2 (fun h=>h)];exact h3⟩)
          | (obtain ⟨a,c,h1,h2⟩:=h;exact ⟨a,c,h1,h2.kept hk (fun _ _ h=>h)⟩))) ?_ ?_
       ·intro i o hi l x wy hI hlf haft
        have e1:x.eval (.tmp 1)=.pointer (some ⟨w.heap.size,0,none⟩):=hI.keep 1 _ rfl (by kernel_rfl)
        have hO2:=UW.out
        have B3:=HB2.out.kept hI.kept (fun h=>h)
        clear c0 c1 c2 c3 c4 c5 c6 c7 c8 c9 c10 c11 c12 c13 c14 c15 c16 c17 c18 c19 c20 c21 dU c23
        obtain ⟨c0,c1,c2,c3,c4,c5,c6,c7,c8,c9,c10,c11,c12,c13,c14,c15,c16,c17,c18,c19,c20,c21,dU,c23⟩:=B3.cells
        rcases i with _|_|_|_|_|_|_|_|_|_|i
        all_goals (simp only [List.getElem?_toArray,List.getElem?_cons_zero,List.getElem?_cons_succ,List.getElem?_nil,Option.some.injEq,reduceCtorEq] at hi)
        all_goals subst hi
        ·have e5:x.eval (.tmp 5)=.slice none 0 0:=hI.late hlf 9 5 rfl rfl rfl _ rfl
         refine iw (v:=.slice none 0 0) ?_ (by subst hSp;exact rfl)
         simp only [execOp,resolve,invoke,List.map_toArray,List.map_cons,List.map_nil,e5];go_simp
        ·refine iw (v:=.pointer (some ⟨w.heap.size,7,none⟩)) ?_ (by subst hSp;exact rfl)
         simp only [execOp,resolve,invoke,List.map_toArray,List.map_cons,List.map_nil,e1];go_simp
        ·have d58:x.eval (.tmp 58)=.pointer (some ⟨w.heap.size,7,none⟩):=by have h_:=hI.dep haft 1 58 rfl rfl rfl;rw [hSp] at h_;exact h_
         refine iw (v:=.agg #[.int .i64 s.value.kind,.string s.value.text,.int .i64 s.value.n,.string s.value.name,.slice a.va s.value.kids.length a.vc]) ?_ (by subst hSp;exact rfl)
         simp only [execOp,resolve,invoke,List.map_toArray,List.map_cons,List.map_nil,d58];go_simp
        ·have d59:x.eval (.tmp 59)=.agg #[.int .i64 s.value.kind,.string s.value.text,.int .i64 s.value.n,.string s.value.name,.slice a.va s.value.kids.length a.vc]:=by have h_:=hI.dep haft 2 59 rfl rfl rfl;rw [hSp] at h_;exact h_
         refine sW (f:=94) (args:=#[.agg #[.int .i64 s.value.kind,.string s.value.text,.int .i64 s.value.n,.string s.value.name,.slice a.va s.value.kids.length a.vc]]) ?_ ?_
         ·simp only [execOp,resolve,invoke,List.map_toArray,List.map_cons,List.map_nil,d59];go_simp
         ·exact (pJ s.value _ S _ (xW.out.o7 hI.kept SS.out) (SS.out.mono hI.kept.size) (by have:=HZ.out.value.t;omega)).mono fun e w' h=>⟨_,h.1,by subst hSp;exact rfl,h.2⟩
        ·refine iw (v:=.pointer (some ⟨w.heap.size,12,none⟩)) ?_ (by subst hSp;exact rfl)
         simp only [execOp,resolve,invoke,List.map_toArray,List.map_cons,List.map_nil,e1];go_simp
        ·have d61:x.eval (.tmp 61)=.pointer (some ⟨w.heap.size,12,none⟩):=by have h_:=hI.dep haft 4 61 rfl rfl rfl;rw [hSp] at h_;exact h_
         refine iw (v:=.agg #[.int .i64 s.pat.kind,.string s.pat.text,.int .i64 s.pat.n,.string s.pat.name,.slice a.pa s.pat.kids.length a.pc]) ?_ (by subst hSp;exact rfl)
         simp only [execOp,resolve,invoke,List.map_toArray,List.map_cons,List.map_nil,d61];go_simp
        ·have d62:x.eval (.tmp 62)=.agg #[.int .i64 s.pat.kind,.string s.pat.text,.int .i64 s.pat.n,.string s.pat.name,.slice a.pa s.pat.kids.length a.pc]:=by have h_:=hI.dep haft 5 62 rfl rfl rfl;rw [hSp] at h_;exact h_
         refine sW (f:=95) (args:=#[.agg #[.int .i64 s.pat.kind,.string s.pat.text,.int .i64 s.pat.n,.string s.pat.name,.slice a.pa s.pat.kids.length a.pc]]) ?_ ?_
         ·simp only [execOp,resolve,invoke,List.map_toArray,List.map_cons,List.map_nil,d62];go_simp
         ·exact (zH s.pat _ _ ((Np.out.o7 hI.kept SS.out).all (SS.out.mono hI.kept.size)) (by have:=HZ.out.pat.t;omega)).mono fun e w' h=>⟨_,h.1,by subst hSp;exact rfl,h.2⟩
        ·have d60:x.eval (.tmp 60)=.int .i64 (aW s.value):=by have h_:=hI.dep haft 3 60 rfl rfl rfl;rw [hSp] at h_;exact h_
         have d63:x.eval (.tmp 63)=.int .i64 (bM s.pat):=by have h_:=hI.dep haft 6 63 rfl rfl rfl;rw [hSp] at h_;exact h_
         refine Ak (v:=.slice (some ⟨wy.heap.size,0,none⟩) 2 2) (w':=wy.alloc (.cells #[.int .i64 (aW s.value),.int .i64 (bM s.pat)] 25)) ?_ ((Kept.refl _ _).alloc _) (by subst hSp;exact ⟨_,rfl,by simp,ay _ _⟩)
         simp only [execOp,resolve,invoke,List.map_toArray,List.map_cons,List.map_nil,d60,d63];go_simp
        ·have d57:x.eval (.tmp 57)=.slice none 0 0:=by have h_:=hI.dep haft 0 57 rfl rfl rfl;rw [hSp] at h_;exact h_
         have d64:∃g,x.eval (.tmp 64)=.slice (some ⟨g,0,none⟩) 2 2∧g<wy.heap.size∧wy.heap[g]?=some (.cells #[.int .i64 (aW s.value),.int .i64 (bM s.pat)] 25 (0,0)):=by have h_:=hI.dep haft 7 64 rfl rfl rfl;rw [hSp] at h_;exact h_
         obtain ⟨g,hv,_,hg⟩:=d64
         exact Nw _ _ rfl d57 [aW s.value,bM s.pat] g hv hg (by simp) w2.heap.size hI.kept.size fun a' c' w' hW=>by subst hSp;exact ⟨a',c',rfl,hW⟩
        ·have d65:∃a' c',x.eval (.tmp 65)=.slice a' 2 c'∧aO wy w2.heap.size 25 1 (.slice a' 2 c') 2 [.int .i64 (aW s.value),.int .i64 (bM s.pat)]:=by have h_:=hI.dep haft 8 65 rfl rfl rfl;rw [hSp] at h_;exact h_
         obtain ⟨a',c',hv,hW⟩:=d65
         refine iw (v:=.slice a' 2 c') ?_ (by subst hSp;exact ⟨_,_,rfl,hW⟩)
         simp only [execOp,resolve,invoke,List.map_toArray,List.map_cons,List.map_nil,hv];go_simp
       ·intro f wy hK hS
        have ML:=hS 9 _ 5 rfl rfl
        rw [hSp] at ML
        obtain ⟨a4,rF,e5,MN⟩:=ML
        have xw:Hid (aO wy w2.heap.size 25 1 (.slice a4 2 rF) 2 [.int .i64 (aW s.value),.int .i64 (bM s.pat)]):=MN
        have K4:=ah hK
        clear hK hS MN
        clear c0 c1 c2 c3 c4 c5 c6 c7 c8 c9 c10 c11 c12 c13 c14 c15 c16 c17 c18 c19 c20 c21 dU c23;obtain ⟨c0,c1,c2,c3,c4,c5,c6,c7,c8,c9,c10,c11,c12,c13,c14,c15,c16,c17,c18,c19,c20,c21,dU,c23⟩:=(HB2.out.kept K4.out (fun h=>h)).cells
        simp only [gV,List.foldl_cons,List.foldl_nil,List.setIfInBounds_toArray,List.set_cons_zero,List.set_cons_succ,e5]
        clear e5
        go_wp2_with fail
        go_meet
        exact ⟨[aW s.value,bM s.pat],a4,rF,rfl,by simp,xw.out,EK,K4.out⟩
      have n4:=hkd;clear hkd
      by_cases hkd:s.kind=3
      ·have z1:(s.kind==1)=false:=by rw [hkd];rfl
       have z2:(s.kind==2)=false:=by rw [hkd];rfl
       have z4:(s.kind==4)=false:=by rw [hkd];rfl
       have z3:(s.kind==3)=true:=by rw [hkd];rfl
       have z5:(s.kind==5)=false:=by rw [hkd];rfl
       have HKD:=ah hkd
       clear hkd
       go_wp2_with fail
       refine (pJ s.target _ S _ (CO.out.o7 Jl.out SS.out) (SS.out.mono Jl.out.size) (by have:=HZ.out.target.t;omega)).mono ?_
       rintro e w3 ⟨rfl,k_⟩
       have K3:=ah (Jl.out.trans k_)
       clear k_
       clear c0 c1 c2 c3 c4 c5 c6 c7 c8 c9 c10 c11 c12 c13 c14 c15 c16 c17 c18 c19 c20 c21 dU c23;obtain ⟨c0,c1,c2,c3,c4,c5,c6,c7,c8,c9,c10,c11,c12,c13,c14,c15,c16,c17,c18,c19,c20,c21,dU,c23⟩:=(HB2.out.kept K3.out (fun h=>h)).cells
       go_wp2_with (at_builtin;go_loud (refine ig (w0:=w2) rfl _ _ rfl (.slice none 0 0) 0 [] rfl w2.heap.size (aO.nil ..) [aW s.target] w3.heap.size rfl (ay _ _) (by simp) (by have:=K3.out.size;simp;omega) (K3.out.alloc _) (Nat.le_refl _) ?_);intro a4 rF w4 jg jh _;have xw:Hid (aO w4 w2.heap.size 25 1 (.slice a4 1 rF) 1 [.int .i64 (aW s.target)]):=jg;have K4:=ah jh;clear jg jh;clear c0 c1 c2 c3 c4 c5 c6 c7 c8 c9 c10 c11 c12 c13 c14 c15 c16 c17 c18 c19 c20 c21 dU c23;obtain ⟨c0,c1,c2,c3,c4,c5,c6,c7,c8,c9,c10,c11,c12,c13,c14,c15,c16,c17,c18,c19,c20,c21,dU,c23⟩:=(HB2.out.kept K4.out (fun h=>h)).cells)
       refine (Jj s.target _ S _ (CO.out.o7 K4.out SS.out)).mono ?_
       rintro e w5 ⟨rfl,k_⟩
       have K5:=ah (K4.out.trans k_)
       have Jm:=ah (xw.out.kept k_ (fun _ _ h=>h))
       clear k_
       clear c0 c1 c2 c3 c4 c5 c6 c7 c8 c9 c10 c11 c12 c13 c14 c15 c16 c17 c18 c19 c20 c21 dU c23;obtain ⟨c0,c1,c2,c3,c4,c5,c6,c7,c8,c9,c10,c11,c12,c13,c14,c15,c16,c17,c18,c19,c20,c21,dU,c23⟩:=(HB2.out.kept K5.out (fun h=>h)).cells
       by_cases ht:isTarget s.target
       ·have EK:Hid (iJ s=dL [aW s.target,aW s.value]):=by have hkd:=HKD.out;unfold Hid;unfold iJ;rw [if_neg (by omega),if_neg (by omega),if_neg (by omega),if_pos hkd];rw [if_pos ht];simp [dL]
        have hb:decide (isTarget s.target)=true:=ak ht
        rw [hb]
        clear hb ht
        go_wp2_with fail
        refine (pJ s.value _ S _ (xW.out.o7 K5.out SS.out) (SS.out.mono K5.out.size) (by have:=HZ.out.value.t;omega)).mono ?_
        rintro e w6 ⟨rfl,k_⟩
        have K6:=ah (K5.out.trans k_)
        have FX:=ah (Jm.out.kept k_ (fun _ _ h=>h))
        clear k_
        clear c0 c1 c2 c3 c4 c5 c6 c7 c8 c9 c10 c11 c12 c13 c14 c15 c16 c17 c18 c19 c20 c21 dU c23;obtain ⟨c0,c1,c2,c3,c4,c5,c6,c7,c8,c9,c10,c11,c12,c13,c14,c15,c16,c17,c18,c19,c20,c21,dU,c23⟩:=(HB2.out.kept K6.out (fun h=>h)).cells
        go_wp2_with (at_builtin;go_loud (refine ig (w0:=w2) rfl _ _ rfl (.slice a4 1 rF) 1 [.int .i64 (aW s.target)] rfl w2.heap.size (FX.out.alloc _) [aW s.value] w6.heap.size rfl (ay _ _) (by simp) (by have:=K6.out.size;simp;omega) (K6.out.alloc _) (Nat.le_refl _) ?_);intro a7 c_7 w7 jg jh _;have QG:Hid (aO w7 w2.heap.size 25 1 (.slice a7 2 c_7) 2 [.int .i64 (aW s.target),.int .i64 (aW s.value)]):=jg;have K7:=ah jh;clear jg jh;clear c0 c1 c2 c3 c4 c5 c6 c7 c8 c9 c10 c11 c12 c13 c14 c15 c16 c17 c18 c19 c20 c21 dU c23;obtain ⟨c0,c1,c2,c3,c4,c5,c6,c7,c8,c9,c10,c11,c12,c13,c14,c15,c16,c17,c18,c19,c20,c21,dU,c23⟩:=(HB2.out.kept K7.out (fun h=>h)).cells)
        go_meet
        exact ⟨[aW s.target,aW s.value],a7,c_7,rfl,by simp,QG.out,EK,K7.out⟩
       ·have EK:Hid (iJ s=dL [aW s.target,8,aW s.value]):=by have hkd:=HKD.out;unfold Hid;unfold iJ;rw [if_neg (by omega),if_neg (by omega),if_neg (by omega),if_pos hkd];rw [if_neg ht]
        have hb:decide (isTarget s.target)=false:=au ht
        rw [hb]
        clear hb ht
        go_wp2_with (at_builtin;go_loud (refine ig (w0:=w2) rfl _ _ rfl (.slice a4 1 rF) 1 [.int .i64 (aW s.target)] rfl w2.heap.size (Jm.out.alloc _) [8] w5.heap.size rfl (ay _ _) (by simp) (by have:=K5.out.size;simp;omega) (K5.out.alloc _) (Nat.le_refl _) ?_);intro a6 c_6 w6 jg jh _;have FX:Hid (aO w6 w2.heap.size 25 1 (.slice a6 2 c_6) 2 [.int .i64 (aW s.target),.int .i64 (8)]):=jg;have K6:=ah jh;clear jg jh;clear c0 c1 c2 c3 c4 c5 c6 c7 c8 c9 c10 c11 c12 c13 c14 c15 c16 c17 c18 c19 c20 c21 dU c23;obtain ⟨c0,c1,c2,c3,c4,c5,c6,c7,c8,c9,c10,c11,c12,c13,c14,c15,c16,c17,c18,c19,c20,c21,dU,c23⟩:=(HB2.out.kept K6.out (fun h=>h)).cells)
        refine (pJ s.value _ S _ (xW.out.o7 K6.out SS.out) (SS.out.mono K6.out.size) (by have:=HZ.out.value.t;omega)).mono ?_
        rintro e w7 ⟨rfl,k_⟩
        have K7:=ah (K6.out.trans k_)
        have QG:=ah (FX.out.kept k_ (fun _ _ h=>h))
        clear k_
        clear c0 c1 c2 c3 c4 c5 c6 c7 c8 c9 c10 c11 c12 c13 c14 c15 c16 c17 c18 c19 c20 c21 dU c23;obtain ⟨c0,c1,c2,c3,c4,c5,c6,c7,c8,c9,c10,c11,c12,c13,c14,c15,c16,c17,c18,c19,c20,c21,dU,c23⟩:=(HB2.out.kept K7.out (fun h=>h)).cells
        go_wp2_with (at_builtin;go_loud (refine ig (w0:=w2) rfl _ _ rfl (.slice a6 2 c_6) 2 [.int .i64 (aW s.target),.int .i64 (8)] rfl w2.heap.size (QG.out.alloc _) [aW s.value] w7.heap.size rfl (ay _ _) (by simp) (by have:=K7.out.size;simp;omega) (K7.out.alloc _) (Nat.le_refl _) ?_);intro a8 c_8 w8 jg jh _;have HW8:Hid (aO w8 w2.heap.size 25 1 (.slice a8 3 c_8) 3 [.int .i64 (aW s.target),.int .i64 (8),.int .i64 (aW s.value)]):=jg;have K8:=ah jh;clear jg jh;clear c0 c1 c2 c3 c4 c5 c6 c7 c8 c9 c10 c11 c12 c13 c14 c15 c16 c17 c18 c19 c20 c21 dU c23;obtain ⟨c0,c1,c2,c3,c4,c5,c6,c7,c8,c9,c10,c11,c12,c13,c14,c15,c16,c17,c18,c19,c20,c21,dU,c23⟩:=(HB2.out.kept K8.out (fun h=>h)).cells)
        go_meet
        exact ⟨[aW s.target,8,aW s.value],a8,c_8,rfl,by simp,HW8.out,EK,K8.out⟩
      have n3:=hkd;clear hkd
      by_cases hkd:s.kind=5
      ·have z1:(s.kind==1)=false:=by rw [hkd];rfl
       have z2:(s.kind==2)=false:=by rw [hkd];rfl
       have z4:(s.kind==4)=false:=by rw [hkd];rfl
       have z3:(s.kind==3)=false:=by rw [hkd];rfl
       have z5:(s.kind==5)=true:=by rw [hkd];rfl
       have z5':(s.kind==5)=true:=by rw [hkd];rfl
       have HKD:=ah hkd
       clear hkd
       go_wp2_with fail
       refine (pJ s.target _ S _ (CO.out.o7 Jl.out SS.out) (SS.out.mono Jl.out.size) (by have:=HZ.out.target.t;omega)).mono ?_
       rintro e w3 ⟨rfl,k_⟩
       have K3:=ah (Jl.out.trans k_)
       clear k_
       clear c0 c1 c2 c3 c4 c5 c6 c7 c8 c9 c10 c11 c12 c13 c14 c15 c16 c17 c18 c19 c20 c21 dU c23;obtain ⟨c0,c1,c2,c3,c4,c5,c6,c7,c8,c9,c10,c11,c12,c13,c14,c15,c16,c17,c18,c19,c20,c21,dU,c23⟩:=(HB2.out.kept K3.out (fun h=>h)).cells
       go_wp2_with (at_builtin;go_loud (refine ig (w0:=w2) rfl _ _ rfl (.slice none 0 0) 0 [] rfl w2.heap.size (aO.nil ..) [aW s.target] w3.heap.size rfl (ay _ _) (by simp) (by have:=K3.out.size;simp;omega) (K3.out.alloc _) (Nat.le_refl _) ?_);intro a4 rF w4 jg jh _;have xw:Hid (aO w4 w2.heap.size 25 1 (.slice a4 1 rF) 1 [.int .i64 (aW s.target)]):=jg;have K4:=ah jh;clear jg jh;clear c0 c1 c2 c3 c4 c5 c6 c7 c8 c9 c10 c11 c12 c13 c14 c15 c16 c17 c18 c19 c20 c21 dU c23;obtain ⟨c0,c1,c2,c3,c4,c5,c6,c7,c8,c9,c10,c11,c12,c13,c14,c15,c16,c17,c18,c19,c20,c21,dU,c23⟩:=(HB2.out.kept K4.out (fun h=>h)).cells)
       refine (Jj s.target _ S _ (CO.out.o7 K4.out SS.out)).mono ?_
       rintro e w5 ⟨rfl,k_⟩
       have K5:=ah (K4.out.trans k_)
       have Jm:=ah (xw.out.kept k_ (fun _ _ h=>h))
       clear k_
       clear c0 c1 c2 c3 c4 c5 c6 c7 c8 c9 c10 c11 c12 c13 c14 c15 c16 c17 c18 c19 c20 c21 dU c23;obtain ⟨c0,c1,c2,c3,c4,c5,c6,c7,c8,c9,c10,c11,c12,c13,c14,c15,c16,c17,c18,c19,c20,c21,dU,c23⟩:=(HB2.out.kept K5.out (fun h=>h)).cells
       by_cases ht:isTarget s.target
       ·have EK:Hid (iJ s=dL [aW s.target,bM s.pat,aW s.value]):=by have hkd:=HKD.out;unfold Hid;unfold iJ;rw [if_neg (by omega),if_neg (by omega),if_neg (by omega),if_neg (by omega),if_pos hkd];rw [if_pos ht];simp [dL]
        have hb:decide (isTarget s.target)=true:=ak ht
        rw [hb]
        clear hb ht
        go_wp2_with fail
        refine (zH s.pat _ _ ((Np.out.o7 K5.out SS.out).all (SS.out.mono K5.out.size)) (by have:=HZ.out.pat.t;omega)).mono ?_
        rintro e w6 ⟨rfl,k_⟩
        have K6:=ah (K5.out.trans k_)
        have FX:=ah (Jm.out.kept k_ (fun _ _ h=>h))
        clear k_
        clear c0 c1 c2 c3 c4 c5 c6 c7 c8 c9 c10 c11 c12 c13 c14 c15 c16 c17 c18 c19 c20 c21 dU c23;obtain ⟨c0,c1,c2,c3,c4,c5,c6,c7,c8,c9,c10,c11,c12,c13,c14,c15,c16,c17,c18,c19,c20,c21,dU,c23⟩:=(HB2.out.kept K6.out (fun h=>h)).cells
        go_wp2_with (at_builtin;go_loud (refine ig (w0:=w2) rfl _ _ rfl (.slice a4 1 rF) 1 [.int .i64 (aW s.target)] rfl w2.heap.size (FX.out.alloc _) [bM s.pat] w6.heap.size rfl (ay _ _) (by simp) (by have:=K6.out.size;simp;omega) (K6.out.alloc _) (Nat.le_refl _) ?_);intro a7 c_7 w7 jg jh _;have QG:Hid (aO w7 w2.heap.size 25 1 (.slice a7 2 c_7) 2 [.int .i64 (aW s.target),.int .i64 (bM s.pat)]):=jg;have K7:=ah jh;clear jg jh;clear c0 c1 c2 c3 c4 c5 c6 c7 c8 c9 c10 c11 c12 c13 c14 c15 c16 c17 c18 c19 c20 c21 dU c23;obtain ⟨c0,c1,c2,c3,c4,c5,c6,c7,c8,c9,c10,c11,c12,c13,c14,c15,c16,c17,c18,c19,c20,c21,dU,c23⟩:=(HB2.out.kept K7.out (fun h=>h)).cells)
        refine (pJ s.value _ S _ (xW.out.o7 K7.out SS.out) (SS.out.mono K7.out.size) (by have:=HZ.out.value.t;omega)).mono ?_
        rintro e w8 ⟨rfl,k_⟩
        have K8:=ah (K7.out.trans k_)
        have HW8:=ah (QG.out.kept k_ (fun _ _ h=>h))
        clear k_
        clear c0 c1 c2 c3 c4 c5 c6 c7 c8 c9 c10 c11 c12 c13 c14 c15 c16 c17 c18 c19 c20 c21 dU c23;obtain ⟨c0,c1,c2,c3,c4,c5,c6,c7,c8,c9,c10,c11,c12,c13,c14,c15,c16,c17,c18,c19,c20,c21,dU,c23⟩:=(HB2.out.kept K8.out (fun h=>h)).cells
        go_wp2_with (at_builtin;go_loud (refine ig (w0:=w2) rfl _ _ rfl (.slice a7 2 c_7) 2 [.int .i64 (aW s.target),.int .i64 (bM s.pat)] rfl w2.heap.size (HW8.out.alloc _) [aW s.value] w8.heap.size rfl (ay _ _) (by simp) (by have:=K8.out.size;simp;omega) (K8.out.alloc _) (Nat.le_refl _) ?_);intro a9 c_9 w9 jg jh _;have HW9:Hid (aO w9 w2.heap.size 25 1 (.slice a9 3 c_9) 3 [.int .i64 (aW s.target),.int .i64 (bM s.pat),.int .i64 (aW s.value)]):=jg;have K9:=ah jh;clear jg jh;clear c0 c1 c2 c3 c4 c5 c6 c7 c8 c9 c10 c11 c12 c13 c14 c15 c16 c17 c18 c19 c20 c21 dU c23;obtain ⟨c0,c1,c2,c3,c4,c5,c6,c7,c8,c9,c10,c11,c12,c13,c14,c15,c16,c17,c18,c19,c20,c21,dU,c23⟩:=(HB2.out.kept K9.out (fun h=>h)).cells)
        go_meet
        exact ⟨[aW s.target,bM s.pat,aW s.value],a9,c_9,rfl,by simp,HW9.out,EK,K9.out⟩
       ·have EK:Hid (iJ s=dL [aW s.target,8,bM s.pat,aW s.value]):=by have hkd:=HKD.out;unfold Hid;unfold iJ;rw [if_neg (by omega),if_neg (by omega),if_neg (by omega),if_neg (by omega),if_pos hkd];rw [if_neg ht]
        have hb:decide (isTarget s.target)=false:=au ht
        rw [hb]
        clear hb ht
        go_wp2_with (at_builtin;go_loud (refine ig (w0:=w2) rfl _ _ rfl (.slice a4 1 rF) 1 [.int .i64 (aW s.target)] rfl w2.heap.size (Jm.out.alloc _) [8] w5.heap.size rfl (ay _ _) (by simp) (by have:=K5.out.size;simp;omega) (K5.out.alloc _) (Nat.le_refl _) ?_);intro a6 c_6 w6 jg jh _;have FX:Hid (aO w6 w2.heap.size 25 1 (.slice a6 2 c_6) 2 [.int .i64 (aW s.target),.int .i64 (8)]):=jg;have K6:=ah jh;clear jg jh;clear c0 c1 c2 c3 c4 c5 c6 c7 c8 c9 c10 c11 c12 c13 c14 c15 c16 c17 c18 c19 c20 c21 dU c23;obtain ⟨c0,c1,c2,c3,c4,c5,c6,c7,c8,c9,c10,c11,c12,c13,c14,c15,c16,c17,c18,c19,c20,c21,dU,c23⟩:=(HB2.out.kept K6.out (fun h=>h)).cells)
        refine (zH s.pat _ _ ((Np.out.o7 K6.out SS.out).all (SS.out.mono K6.out.size)) (by have:=HZ.out.pat.t;omega)).mono ?_
        rintro e w7 ⟨rfl,k_⟩
        have K7:=ah (K6.out.trans k_)
        have QG:=ah (FX.out.kept k_ (fun _ _ h=>h))
        clear k_
        clear c0 c1 c2 c3 c4 c5 c6 c7 c8 c9 c10 c11 c12 c13 c14 c15 c16 c17 c18 c19 c20 c21 dU c23;obtain ⟨c0,c1,c2,c3,c4,c5,c6,c7,c8,c9,c10,c11,c12,c13,c14,c15,c16,c17,c18,c19,c20,c21,dU,c23⟩:=(HB2.out.kept K7.out (fun h=>h)).cells
        go_wp2_with (at_builtin;go_loud (refine ig (w0:=w2) rfl _ _ rfl (.slice a6 2 c_6) 2 [.int .i64 (aW s.target),.int .i64 (8)] rfl w2.heap.size (QG.out.alloc _) [bM s.pat] w7.heap.size rfl (ay _ _) (by simp) (by have:=K7.out.size;simp;omega) (K7.out.alloc _) (Nat.le_refl _) ?_);intro a8 c_8 w8 jg jh _;have HW8:Hid (aO w8 w2.heap.size 25 1 (.slice a8 3 c_8) 3 [.int .i64 (aW s.target),.int .i64 (8),.int .i64 (bM s.pat)]):=jg;have K8:=ah jh;clear jg jh;clear c0 c1 c2 c3 c4 c5 c6 c7 c8 c9 c10 c11 c12 c13 c14 c15 c16 c17 c18 c19 c20 c21 dU c23;obtain ⟨c0,c1,c2,c3,c4,c5,c6,c7,c8,c9,c10,c11,c12,c13,c14,c15,c16,c17,c18,c19,c20,c21,dU,c23⟩:=(HB2.out.kept K8.out (fun h=>h)).cells)
        refine (pJ s.value _ S _ (xW.out.o7 K8.out SS.out) (SS.out.mono K8.out.size) (by have:=HZ.out.value.t;omega)).mono ?_
        rintro e w9 ⟨rfl,k_⟩
        have K9:=ah (K8.out.trans k_)
        have HW9:=ah (HW8.out.kept k_ (fun _ _ h=>h))
        clear k_
        clear c0 c1 c2 c3 c4 c5 c6 c7 c8 c9 c10 c11 c12 c13 c14 c15 c16 c17 c18 c19 c20 c21 dU c23;obtain ⟨c0,c1,c2,c3,c4,c5,c6,c7,c8,c9,c10,c11,c12,c13,c14,c15,c16,c17,c18,c19,c20,c21,dU,c23⟩:=(HB2.out.kept K9.out (fun h=>h)).cells
        go_wp2_with (at_builtin;go_loud (refine ig (w0:=w2) rfl _ _ rfl (.slice a8 3 c_8) 3 [.int .i64 (aW s.target),.int .i64 (8),.int .i64 (bM s.pat)] rfl w2.heap.size (HW9.out.alloc _) [aW s.value] w9.heap.size rfl (ay _ _) (by simp) (by have:=K9.out.size;simp;omega) (K9.out.alloc _) (Nat.le_refl _) ?_);intro a10 ahK w10 jg jh _;have aj0:Hid (aO w10 w2.heap.size 25 1 (.slice a10 4 ahK) 4 [.int .i64 (aW s.target),.int .i64 (8),.int .i64 (bM s.pat),.int .i64 (aW s.value)]):=jg;have K10:=ah jh;clear jg jh;clear c0 c1 c2 c3 c4 c5 c6 c7 c8 c9 c10 c11 c12 c13 c14 c15 c16 c17 c18 c19 c20 c21 dU c23;obtain ⟨c0,c1,c2,c3,c4,c5,c6,c7,c8,c9,c10,c11,c12,c13,c14,c15,c16,c17,c18,c19,c20,c21,dU,c23⟩:=(HB2.out.kept K10.out (fun h=>h)).cells)
        go_meet
        exact ⟨[aW s.target,8,bM s.pat,aW s.value],a10,ahK,rfl,by simp,aj0.out,EK,K10.out⟩
      have n5:=hkd;clear hkd
      by_cases hkd:s.kind=6
      ·have z1:(s.kind==1)=false:=by rw [hkd];rfl
       have z2:(s.kind==2)=false:=by rw [hkd];rfl
       have z4:(s.kind==4)=false:=by rw [hkd];rfl
       have z3:(s.kind==3)=false:=by rw [hkd];rfl
       have z5:(s.kind==5)=false:=by rw [hkd];rfl
       have z6:(s.kind==6)=true:=by rw [hkd];rfl
       have EK:Hid (iJ s=dL [aJ [s.name],bM s.pat]):=by unfold Hid;unfold iJ;rw [if_neg (by omega),if_neg (by omega),if_neg (by omega),if_neg (by omega),if_neg (by omega),if_pos hkd]
       clear hkd
       go_upto_region 26 with fail
       obtain ⟨Sp,hSp⟩:∃Sp:Nat→Value→World→Prop,Sp=(fun i v wx=>match i with
        | 0=>v=.slice none 0 0
        | 1=>v=.pointer (some ⟨w.heap.size,17,none⟩)
        | 2=>v=.string s.name
        | 3=>∃g,v=.slice (some ⟨g,0,none⟩) 1 1∧g<wx.heap.size∧wx.heap[g]?=some (.cells #[.string s.name] 9 (0,0))
        | 4=>v=.int .i64 (aJ [s.name])
        | 5=>v=.pointer (some ⟨w.heap.size,12,none⟩)
        | 6=>v=.agg #[.int .i64 s.pat.kind,.string s.pat.text,.int .i64 s.pat.n,.string s.pat.name,.slice a.pa s.pat.kids.length a.pc]
        | 7=>v=.int .i64 (bM s.pat)
        | 8=>∃g,v=.slice (some ⟨g,0,none⟩) 2 2∧g<wx.heap.size∧wx.heap[g]?=some (.cells #[.int .i64 (aJ [s.name]),.int .i64 (bM s.pat)] 25 (0,0))
        | 9=>∃a' c',v=.slice a' 2 c'∧aO wx w2.heap.size 25 1 (.slice a' 2 c') 2 [.int .i64 (aJ [s.name]),.int .i64 (bM s.pat)]
        | _=>∃a' c',v=.slice a' 2 c'∧aO wx w2.heap.size 25 1 (.slice a' 2 c') 2 [.int .i64 (aJ [s.name]),.int .i64 (bM s.pat)]):=⟨_,rfl⟩
       refine DR Sp [99,100,101,102,103,104,105,106,107,108,5] (by kernel_rfl) (by kernel_rfl) (by kernel_rfl) (fun i v w w' h hk=>by
         subst hSp
         rcases i with _|_|_|_|_|_|_|_|_|_|_|i
         all_goals (first
          | exact h
          | (obtain ⟨g,h1,h2,h3⟩:=h;exact ⟨g,h1,Nat.lt_of_lt_of_le h2 hk.size,by rw [hk.block g h2 (fun h=>h)];exact h3⟩)
          | (obtain ⟨a,c,h1,h2⟩:=h;exact ⟨a,c,h1,h2.kept hk (fun _ _ h=>h)⟩))) ?_ ?_
       ·intro i o hi l x wy hI hlf haft
        have e1:x.eval (.tmp 1)=.pointer (some ⟨w.heap.size,0,none⟩):=hI.keep 1 _ rfl (by kernel_rfl)
        have hO2:=UW.out
        have B3:=HB2.out.kept hI.kept (fun h=>h)
        clear c0 c1 c2 c3 c4 c5 c6 c7 c8 c9 c10 c11 c12 c13 c14 c15 c16 c17 c18 c19 c20 c21 dU c23
        obtain ⟨c0,c1,c2,c3,c4,c5,c6,c7,c8,c9,c10,c11,c12,c13,c14,c15,c16,c17,c18,c19,c20,c21,dU,c23⟩:=B3.cells
        rcases i with _|_|_|_|_|_|_|_|_|_|_|i
        all_goals (simp only [List.getElem?_toArray,List.getElem?_cons_zero,List.getElem?_cons_succ,List.getElem?_nil,Option.some.injEq,reduceCtorEq] at hi)
        all_goals subst hi
        ·have e5:x.eval (.tmp 5)=.slice none 0 0:=hI.late hlf 10 5 rfl rfl rfl _ rfl
         refine iw (v:=.slice none 0 0) ?_ (by subst hSp;exact rfl)
         simp only [execOp,resolve,invoke,List.map_toArray,List.map_cons,List.map_nil,e5];go_simp
        ·refine iw (v:=.pointer (some ⟨w.heap.size,17,none⟩)) ?_ (by subst hSp;exact rfl)
         simp only [execOp,resolve,invoke,List.map_toArray,List.map_cons,List.map_nil,e1];go_simp
        ·have aj1:x.eval (.tmp 100)=.pointer (some ⟨w.heap.size,17,none⟩):=by have h_:=hI.dep haft 1 100 rfl rfl rfl;rw [hSp] at h_;exact h_
         refine iw (v:=.string s.name) ?_ (by subst hSp;exact rfl)
         simp only [execOp,resolve,invoke,List.map_toArray,List.map_cons,List.map_nil,aj1];go_simp
        ·have aj2:x.eval (.tmp 101)=.string s.name:=by have h_:=hI.dep haft 2 101 rfl rfl rfl;rw [hSp] at h_;exact h_
         refine Ak (v:=.slice (some ⟨wy.heap.size,0,none⟩) 1 1) (w':=wy.alloc (.cells #[.string s.name] 9)) ?_ ((Kept.refl _ _).alloc _) (by subst hSp;exact ⟨_,rfl,by simp,ay _ _⟩)
         simp only [execOp,resolve,invoke,List.map_toArray,List.map_cons,List.map_nil,aj2];go_simp
        ·have aj3:∃g,x.eval (.tmp 102)=.slice (some ⟨g,0,none⟩) 1 1∧g<wy.heap.size∧wy.heap[g]?=some (.cells #[.string s.name] 9 (0,0)):=by have h_:=hI.dep haft 3 102 rfl rfl rfl;rw [hSp] at h_;exact h_
         obtain ⟨g,hv,_,hg⟩:=aj3
         refine sW (f:=96) (args:=#[.slice (some ⟨g,0,none⟩) 1 1]) ?_ ?_
         ·simp only [execOp,resolve,invoke,List.map_toArray,List.map_cons,List.map_nil,hv];go_simp
         ·exact (uQ [s.name] _ 1 (· = g) _ (yI hg rfl) ⟨by simp,by intro y hy;simp only [List.mem_singleton] at hy;subst hy;exact HZ.out.name⟩).mono fun e w' h=>⟨_,h.1,by subst hSp;exact rfl,by rw [h.2];exact Kept.refl _ _⟩
        ·refine iw (v:=.pointer (some ⟨w.heap.size,12,none⟩)) ?_ (by subst hSp;exact rfl)
         simp only [execOp,resolve,invoke,List.map_toArray,List.map_cons,List.map_nil,e1];go_simp
        ·have aj6:x.eval (.tmp 104)=.pointer (some ⟨w.heap.size,12,none⟩):=by have h_:=hI.dep haft 5 104 rfl rfl rfl;rw [hSp] at h_;exact h_
         refine iw (v:=.agg #[.int .i64 s.pat.kind,.string s.pat.text,.int .i64 s.pat.n,.string s.pat.name,.slice a.pa s.pat.kids.length a.pc]) ?_ (by subst hSp;exact rfl)
         simp only [execOp,resolve,invoke,List.map_toArray,List.map_cons,List.map_nil,aj6];go_simp
        ·have aj7:x.eval (.tmp 105)=.agg #[.int .i64 s.pat.kind,.string s.pat.text,.int .i64 s.pat.n,.string s.pat.name,.slice a.pa s.pat.kids.length a.pc]:=by have h_:=hI.dep haft 6 105 rfl rfl rfl;rw [hSp] at h_;exact h_
         refine sW (f:=95) (args:=#[.agg #[.int .i64 s.pat.kind,.string s.pat.text,.int .i64 s.pat.n,.string s.pat.name,.slice a.pa s.pat.kids.length a.pc]]) ?_ ?_
         ·simp only [execOp,resolve,invoke,List.map_toArray,List.map_cons,List.map_nil,aj7];go_simp
         ·exact (zH s.pat _ _ ((Np.out.o7 hI.kept SS.out).all (SS.out.mono hI.kept.size)) (by have:=HZ.out.pat.t;omega)).mono fun e w' h=>⟨_,h.1,by subst hSp;exact rfl,h.2⟩
        ·have aj8:x.eval (.tmp 103)=.int .i64 (aJ [s.name]):=by have h_:=hI.dep haft 4 103 rfl rfl rfl;rw [hSp] at h_;exact h_
         have aj9:x.eval (.tmp 106)=.int .i64 (bM s.pat):=by have h_:=hI.dep haft 7 106 rfl rfl rfl;rw [hSp] at h_;exact h_
         refine Ak (v:=.slice (some ⟨wy.heap.size,0,none⟩) 2 2) (w':=wy.alloc (.cells #[.int .i64 (aJ [s.name]),.int .i64 (bM s.pat)] 25)) ?_ ((Kept.refl _ _).alloc _) (by subst hSp;exact ⟨_,rfl,by simp,ay _ _⟩)
         simp only [execOp,resolve,invoke,List.map_toArray,List.map_cons,List.map_nil,aj8,aj9];go_simp
        ·have d99:x.eval (.tmp 99)=.slice none 0 0:=by have h_:=hI.dep haft 0 99 rfl rfl rfl;rw [hSp] at h_;exact h_
         have akb:∃g,x.eval (.tmp 107)=.slice (some ⟨g,0,none⟩) 2 2∧g<wy.heap.size∧wy.heap[g]?=some (.cells #[.int .i64 (aJ [s.name]),.int .i64 (bM s.pat)] 25 (0,0)):=by have h_:=hI.dep haft 8 107 rfl rfl rfl;rw [hSp] at h_;exact h_
         obtain ⟨g,hv,_,hg⟩:=akb
         exact Nw _ _ rfl d99 [aJ [s.name],bM s.pat] g hv hg (by simp) w2.heap.size hI.kept.size fun a' c' w' hW=>by subst hSp;exact ⟨a',c',rfl,hW⟩
        ·have akc:∃a' c',x.eval (.tmp 108)=.slice a' 2 c'∧aO wy w2.heap.size 25 1 (.slice a' 2 c') 2 [.int .i64 (aJ [s.name]),.int .i64 (bM s.pat)]:=by have h_:=hI.dep haft 9 108 rfl rfl rfl;rw [hSp] at h_;exact h_
         obtain ⟨a',c',hv,hW⟩:=akc
         refine iw (v:=.slice a' 2 c') ?_ (by subst hSp;exact ⟨_,_,rfl,hW⟩)
         simp only [execOp,resolve,invoke,List.map_toArray,List.map_cons,List.map_nil,hv];go_simp
       ·intro f wy hK hS
        have ML:=hS 10 _ 5 rfl rfl
        rw [hSp] at ML
        obtain ⟨a4,rF,e5,MN⟩:=ML
        have xw:Hid (aO wy w2.heap.size 25 1 (.slice a4 2 rF) 2 [.int .i64 (aJ [s.name]),.int .i64 (bM s.pat)]):=MN
        have K4:=ah hK
        clear hK hS MN
        clear c0 c1 c2 c3 c4 c5 c6 c7 c8 c9 c10 c11 c12 c13 c14 c15 c16 c17 c18 c19 c20 c21 dU c23;obtain ⟨c0,c1,c2,c3,c4,c5,c6,c7,c8,c9,c10,c11,c12,c13,c14,c15,c16,c17,c18,c19,c20,c21,dU,c23⟩:=(HB2.out.kept K4.out (fun h=>h)).cells
        simp only [gV,List.foldl_cons,List.foldl_nil,List.setIfInBounds_toArray,List.set_cons_zero,List.set_cons_succ,e5]
        clear e5
        go_wp2_with fail
        go_meet
        exact ⟨[aJ [s.name],bM s.pat],a4,rF,rfl,by simp,xw.out,EK,K4.out⟩
      have n6:=hkd;clear hkd
      by_cases hkd:s.kind=7
      ·have z1:(s.kind==1)=false:=by rw [hkd];rfl
       have z2:(s.kind==2)=false:=by rw [hkd];rfl
       have z4:(s.kind==4)=false:=by rw [hkd];rfl
       have z3:(s.kind==3)=false:=by rw [hkd];rfl
       have z5:(s.kind==5)=false:=by rw [hkd];rfl
       have z6:(s.kind==6)=false:=by rw [hkd];rfl
       have z7:(s.kind==7)=true:=by rw [hkd];rfl
       have EQ:Hid (iJ s=dL [aJ [s.name],aJ s.params,aJ s.locals,aJ [s.entry],if 8<s.params.length∨8<s.locals.length then 5 else 0]):=by unfold Hid;unfold iJ;rw [if_neg (by omega),if_neg (by omega),if_neg (by omega),if_neg (by omega),if_neg (by omega),if_neg (by omega),if_pos hkd]
       clear hkd
       go_upto_region 28 with fail
       obtain ⟨Sp,hSp⟩:∃Sp:Nat→Value→World→Prop,Sp=(fun i v wx=>match i with
        | 0=>v=.slice none 0 0
        | 1=>v=.pointer (some ⟨w.heap.size,17,none⟩)
        | 2=>v=.string s.name
        | 3=>∃g,v=.slice (some ⟨g,0,none⟩) 1 1∧g<wx.heap.size∧wx.heap[g]?=some (.cells #[.string s.name] 9 (0,0))
        | 4=>v=.int .i64 (aJ [s.name])
        | 5=>v=.pointer (some ⟨w.heap.size,19,none⟩)
        | 6=>v=.slice a.ma s.params.length a.mc
        | 7=>v=.int .i64 (aJ s.params)
        | 8=>v=.pointer (some ⟨w.heap.size,20,none⟩)
        | 9=>v=.slice a.la s.locals.length a.lc
        | 10=>v=.int .i64 (aJ s.locals)
        | 11=>v=.pointer (some ⟨w.heap.size,18,none⟩)
        | 12=>v=.string s.entry
        | 13=>∃g,v=.slice (some ⟨g,0,none⟩) 1 1∧g<wx.heap.size∧wx.heap[g]?=some (.cells #[.string s.entry] 9 (0,0))
        | 14=>v=.int .i64 (aJ [s.entry])
        | 15=>∃g,v=.slice (some ⟨g,0,none⟩) 4 4∧g<wx.heap.size∧wx.heap[g]?=some (.cells #[.int .i64 (aJ [s.name]),.int .i64 (aJ s.params),.int .i64 (aJ s.locals),.int .i64 (aJ [s.entry])] 25 (0,0))
        | 16=>∃a' c',v=.slice a' 4 c'∧aO wx w2.heap.size 25 1 (.slice a' 4 c') 4 [.int .i64 (aJ [s.name]),.int .i64 (aJ s.params),.int .i64 (aJ s.locals),.int .i64 (aJ [s.entry])]
        | _=>∃a' c',v=.slice a' 4 c'∧aO wx w2.heap.size 25 1 (.slice a' 4 c') 4 [.int .i64 (aJ [s.name]),.int .i64 (aJ s.params),.int .i64 (aJ s.locals),.int .i64 (aJ [s.entry])]):=⟨_,rfl⟩
       refine DR Sp [111,112,113,114,115,116,117,118,119,120,121,122,123,124,125,126,127,5] (by kernel_rfl) (by kernel_rfl) (by kernel_rfl) (fun i v w w' h hk=>by
         subst hSp
         rcases i with _|_|_|_|_|_|_|_|_|_|_|_|_|_|_|_|_|_|i
         all_goals (first
          | exact h
          | (obtain ⟨g,h1,h2,h3⟩:=h;exact ⟨g,h1,Nat.lt_of_lt_of_le h2 hk.size,by rw [hk.block g h2 (fun h=>h)];exact h3⟩)
          | (obtain ⟨a,c,h1,h2⟩:=h;exact ⟨a,c,h1,h2.kept hk (fun _ _ h=>h)⟩))) ?_ ?_
       ·intro i o hi l x wy hI hlf haft
        have e1:x.eval (.tmp 1)=.pointer (some ⟨w.heap.size,0,none⟩):=hI.keep 1 _ rfl (by kernel_rfl)
        have hO2:=UW.out
        have B3:=HB2.out.kept hI.kept (fun h=>h)
        clear c0 c1 c2 c3 c4 c5 c6 c7 c8 c9 c10 c11 c12 c13 c14 c15 c16 c17 c18 c19 c20 c21 dU c23
        obtain ⟨c0,c1,c2,c3,c4,c5,c6,c7,c8,c9,c10,c11,c12,c13,c14,c15,c16,c17,c18,c19,c20,c21,dU,c23⟩:=B3.cells
        rcases i with _|_|_|_|_|_|_|_|_|_|_|_|_|_|_|_|_|_|i
        all_goals (simp only [List.getElem?_toArray,List.getElem?_cons_zero,List.getElem?_cons_succ,List.getElem?_nil,Option.some.injEq,reduceCtorEq] at hi)
        all_goals subst hi
        ·have e5:x.eval (.tmp 5)=.slice none 0 0:=hI.late hlf 17 5 rfl rfl rfl _ rfl
         refine iw (v:=.slice none 0 0) ?_ (by subst hSp;exact rfl)
         simp only [execOp,resolve,invoke,List.map_toArray,List.map_cons,List.map_nil,e5];go_simp
        ·refine iw (v:=.pointer (some ⟨w.heap.size,17,none⟩)) ?_ (by subst hSp;exact rfl)
         simp only [execOp,resolve,invoke,List.map_toArray,List.map_cons,List.map_nil,e1];go_simp
        ·have akd:x.eval (.tmp 112)=.pointer (some ⟨w.heap.size,17,none⟩):=by have h_:=hI.dep haft 1 112 rfl rfl rfl;rw [hSp] at h_;exact h_
         refine iw (v:=.string s.name) ?_ (by subst hSp;exact rfl)
         simp only [execOp,resolve,invoke,List.map_toArray,List.map_cons,List.map_nil,akd];go_simp
        ·have ake:x.eval (.tmp 113)=.string s.name:=by have h_:=hI.dep haft 2 113 rfl rfl rfl;rw [hSp] at h_;exact h_
         refine Ak (v:=.slice (some ⟨wy.heap.size,0,none⟩) 1 1) (w':=wy.alloc (.cells #[.string s.name] 9)) ?_ ((Kept.refl _ _).alloc _) (by subst hSp;exact ⟨_,rfl,by simp,ay _ _⟩)
         simp only [execOp,resolve,invoke,List.map_toArray,List.map_cons,List.map_nil,ake];go_simp
        ·have akf:∃g,x.eval (.tmp 114)=.slice (some ⟨g,0,none⟩) 1 1∧g<wy.heap.size∧wy.heap[g]?=some (.cells #[.string s.name] 9 (0,0)):=by have h_:=hI.dep haft 3 114 rfl rfl rfl;rw [hSp] at h_;exact h_
         obtain ⟨g,hv,_,hg⟩:=akf
         refine sW (f:=96) (args:=#[.slice (some ⟨g,0,none⟩) 1 1]) ?_ ?_
         ·simp only [execOp,resolve,invoke,List.map_toArray,List.map_cons,List.map_nil,hv];go_simp
         ·exact (uQ [s.name] _ 1 (· = g) _ (yI hg rfl) ⟨by simp,by intro y hy;simp only [List.mem_singleton] at hy;subst hy;exact HZ.out.name⟩).mono fun e w' h=>⟨_,h.1,by subst hSp;exact rfl,by rw [h.2];exact Kept.refl _ _⟩
        ·refine iw (v:=.pointer (some ⟨w.heap.size,19,none⟩)) ?_ (by subst hSp;exact rfl)
         simp only [execOp,resolve,invoke,List.map_toArray,List.map_cons,List.map_nil,e1];go_simp
        ·have akg:x.eval (.tmp 116)=.pointer (some ⟨w.heap.size,19,none⟩):=by have h_:=hI.dep haft 5 116 rfl rfl rfl;rw [hSp] at h_;exact h_
         refine iw (v:=.slice a.ma s.params.length a.mc) ?_ (by subst hSp;exact rfl)
         simp only [execOp,resolve,invoke,List.map_toArray,List.map_cons,List.map_nil,akg];go_simp
        ·have akh:x.eval (.tmp 117)=.slice a.ma s.params.length a.mc:=by have h_:=hI.dep haft 6 117 rfl rfl rfl;rw [hSp] at h_;exact h_
         refine sW (f:=96) (args:=#[.slice a.ma s.params.length a.mc]) ?_ ?_
         ·simp only [execOp,resolve,invoke,List.map_toArray,List.map_cons,List.map_nil,akh];go_simp
         ·exact (uQ s.params _ _ S _ (hO2.params.to hI.kept SS.out (fun _ h=>h)) HZ.out.params).mono fun e w' h=>⟨_,h.1,by subst hSp;exact rfl,by rw [h.2];exact Kept.refl _ _⟩
        ·refine iw (v:=.pointer (some ⟨w.heap.size,20,none⟩)) ?_ (by subst hSp;exact rfl)
         simp only [execOp,resolve,invoke,List.map_toArray,List.map_cons,List.map_nil,e1];go_simp
        ·have abC:x.eval (.tmp 119)=.pointer (some ⟨w.heap.size,20,none⟩):=by have h_:=hI.dep haft 8 119 rfl rfl rfl;rw [hSp] at h_;exact h_
         refine iw (v:=.slice a.la s.locals.length a.lc) ?_ (by subst hSp;exact rfl)
         simp only [execOp,resolve,invoke,List.map_toArray,List.map_cons,List.map_nil,abC];go_simp
        ·have abL:x.eval (.tmp 120)=.slice a.la s.locals.length a.lc:=by have h_:=hI.dep haft 9 120 rfl rfl rfl;rw [hSp] at h_;exact h_
         refine sW (f:=96) (args:=#[.slice a.la s.locals.length a.lc]) ?_ ?_
         ·simp only [execOp,resolve,invoke,List.map_toArray,List.map_cons,List.map_nil,abL];go_simp
         ·exact (uQ s.locals _ _ S _ (hO2.locals.to hI.kept SS.out (fun _ h=>h)) HZ.out.locals).mono fun e w' h=>⟨_,h.1,by subst hSp;exact rfl,by rw [h.2];exact Kept.refl _ _⟩
        ·refine iw (v:=.pointer (some ⟨w.heap.size,18,none⟩)) ?_ (by subst hSp;exact rfl)
         simp only [execOp,resolve,invoke,List.map_toArray,List.map_cons,List.map_nil,e1];go_simp
        ·have abE:x.eval (.tmp 122)=.pointer (some ⟨w.heap.size,18,none⟩):=by have h_:=hI.dep haft 11 122 rfl rfl rfl;rw [hSp] at h_;exact h_
         refine iw (v:=.string s.entry) ?_ (by subst hSp;exact rfl)
         simp only [execOp,resolve,invoke,List.map_toArray,List.map_cons,List.map_nil,abE];go_simp
        ·have abG:x.eval (.tmp 123)=.string s.entry:=by have h_:=hI.dep haft 12 123 rfl rfl rfl;rw [hSp] at h_;exact h_
         refine Ak (v:=.slice (some ⟨wy.heap.size,0,none⟩) 1 1) (w':=wy.alloc (.cells #[.string s.entry] 9)) ?_ ((Kept.refl _ _).alloc _) (by subst hSp;exact ⟨_,rfl,by simp,ay _ _⟩)
         simp only [execOp,resolve,invoke,List.map_toArray,List.map_cons,List.map_nil,abG];go_simp
        ·have abH:∃g,x.eval (.tmp 124)=.slice (some ⟨g,0,none⟩) 1 1∧g<wy.heap.size∧wy.heap[g]?=some (.cells #[.string s.entry] 9 (0,0)):=by have h_:=hI.dep haft 13 124 rfl rfl rfl;rw [hSp] at h_;exact h_
         obtain ⟨g,hv,_,hg⟩:=abH
         refine sW (f:=96) (args:=#[.slice (some ⟨g,0,none⟩) 1 1]) ?_ ?_
         ·simp only [execOp,resolve,invoke,List.map_toArray,List.map_cons,List.map_nil,hv];go_simp
         ·exact (uQ [s.entry] _ 1 (· = g) _ (yI hg rfl) ⟨by simp,by intro y hy;simp only [List.mem_singleton] at hy;subst hy;exact HZ.out.entry⟩).mono fun e w' h=>⟨_,h.1,by subst hSp;exact rfl,by rw [h.2];exact Kept.refl _ _⟩
        ·have aki:x.eval (.tmp 115)=.int .i64 (aJ [s.name]):=by have h_:=hI.dep haft 4 115 rfl rfl rfl;rw [hSp] at h_;exact h_
         have akj:x.eval (.tmp 118)=.int .i64 (aJ s.params):=by have h_:=hI.dep haft 7 118 rfl rfl rfl;rw [hSp] at h_;exact h_
         have abD:x.eval (.tmp 121)=.int .i64 (aJ s.locals):=by have h_:=hI.dep haft 10 121 rfl rfl rfl;rw [hSp] at h_;exact h_
         have abI:x.eval (.tmp 125)=.int .i64 (aJ [s.entry]):=by have h_:=hI.dep haft 14 125 rfl rfl rfl;rw [hSp] at h_;exact h_
         refine Ak (v:=.slice (some ⟨wy.heap.size,0,none⟩) 4 4) (w':=wy.alloc (.cells #[.int .i64 (aJ [s.name]),.int .i64 (aJ s.params),.int .i64 (aJ s.locals),.int .i64 (aJ [s.entry])] 25)) ?_ ((Kept.refl _ _).alloc _) (by subst hSp;exact ⟨_,rfl,by simp,ay _ _⟩)
         simp only [execOp,resolve,invoke,List.map_toArray,List.map_cons,List.map_nil,aki,akj,abD,abI];go_simp
        ·have akk:x.eval (.tmp 111)=.slice none 0 0:=by have h_:=hI.dep haft 0 111 rfl rfl rfl;rw [hSp] at h_;exact h_
         have abJ:∃g,x.eval (.tmp 126)=.slice (some ⟨g,0,none⟩) 4 4∧g<wy.heap.size∧wy.heap[g]?=some (.cells #[.int .i64 (aJ [s.name]),.int .i64 (aJ s.params),.int .i64 (aJ s.locals),.int .i64 (aJ [s.entry])] 25 (0,0)):=by have h_:=hI.dep haft 15 126 rfl rfl rfl;rw [hSp] at h_;exact h_
         obtain ⟨g,hv,_,hg⟩:=abJ
         exact Nw _ _ rfl akk [aJ [s.name],aJ s.params,aJ s.locals,aJ [s.entry]] g hv hg (by simp) w2.heap.size hI.kept.size fun a' c' w' hW=>by subst hSp;exact ⟨a',c',rfl,hW⟩
        ·have abK:∃a' c',x.eval (.tmp 127)=.slice a' 4 c'∧aO wy w2.heap.size 25 1 (.slice a' 4 c') 4 [.int .i64 (aJ [s.name]),.int .i64 (aJ s.params),.int .i64 (aJ s.locals),.int .i64 (aJ [s.entry])]:=by have h_:=hI.dep haft 16 127 rfl rfl rfl;rw [hSp] at h_;exact h_
         obtain ⟨a',c',hv,hW⟩:=abK
         refine iw (v:=.slice a' 4 c') ?_ (by subst hSp;exact ⟨_,_,rfl,hW⟩)
         simp only [execOp,resolve,invoke,List.map_toArray,List.map_cons,List.map_nil,hv];go_simp
       ·intro f wy hK hS
        have ML:=hS 17 _ 5 rfl rfl
        rw [hSp] at ML
        obtain ⟨a4,rF,e5,MN⟩:=ML
        have xw:Hid (aO wy w2.heap.size 25 1 (.slice a4 4 rF) 4 [.int .i64 (aJ [s.name]),.int .i64 (aJ s.params),.int .i64 (aJ s.locals),.int .i64 (aJ [s.entry])]):=MN
        have K4:=ah hK
        clear hK hS MN
        clear c0 c1 c2 c3 c4 c5 c6 c7 c8 c9 c10 c11 c12 c13 c14 c15 c16 c17 c18 c19 c20 c21 dU c23;obtain ⟨c0,c1,c2,c3,c4,c5,c6,c7,c8,c9,c10,c11,c12,c13,c14,c15,c16,c17,c18,c19,c20,c21,dU,c23⟩:=(HB2.out.kept K4.out (fun h=>h)).cells
        simp only [gV,List.foldl_cons,List.foldl_nil,List.setIfInBounds_toArray,List.set_cons_zero,List.set_cons_succ,e5]
        clear e5
        rcases (show (8<s.params.length∨8<s.locals.length)∨¬(8<s.params.length∨8<s.locals.length) from Classical.em _) with hm|hm
        ·have EK:Hid (iJ s=dL [aJ [s.name],aJ s.params,aJ s.locals,aJ [s.entry],5]):=by unfold Hid;rw [EQ.out,if_pos hm]
         rcases (show 8<s.params.length∨(¬8<s.params.length∧8<s.locals.length) by omega) with hp|⟨hp,hq⟩
         ·have x1:decide ((8:Int)<(s.params.length:Int))=true:=ak (by omega)
          clear hm hp
          go_wp2_with (at_builtin;go_loud (refine ig (w0:=w2) rfl _ _ rfl (.slice a4 4 rF) 4 [.int .i64 (aJ [s.name]),.int .i64 (aJ s.params),.int .i64 (aJ s.locals),.int .i64 (aJ [s.entry])] rfl w2.heap.size (xw.out.alloc _) [5] wy.heap.size rfl (ay _ _) (by simp) (by have:=K4.out.size;simp;omega) (K4.out.alloc _) (Nat.le_refl _) ?_);intro a5 c_5 w5 jg jh _;have Jm:Hid (aO w5 w2.heap.size 25 1 (.slice a5 5 c_5) 5 [.int .i64 (aJ [s.name]),.int .i64 (aJ s.params),.int .i64 (aJ s.locals),.int .i64 (aJ [s.entry]),.int .i64 (5)]):=jg;have K5:=ah jh;clear jg jh;clear c0 c1 c2 c3 c4 c5 c6 c7 c8 c9 c10 c11 c12 c13 c14 c15 c16 c17 c18 c19 c20 c21 dU c23;obtain ⟨c0,c1,c2,c3,c4,c5,c6,c7,c8,c9,c10,c11,c12,c13,c14,c15,c16,c17,c18,c19,c20,c21,dU,c23⟩:=(HB2.out.kept K5.out (fun h=>h)).cells)
          go_meet
          exact ⟨[aJ [s.name],aJ s.params,aJ s.locals,aJ [s.entry],5],a5,c_5,rfl,by simp,Jm.out,EK,K5.out⟩
         ·have x1:decide ((8:Int)<(s.params.length:Int))=false:=au (by omega)
          have x2:decide ((8:Int)<(s.locals.length:Int))=true:=ak (by omega)
          clear hm hp hq
          go_wp2_with (at_builtin;go_loud (refine ig (w0:=w2) rfl _ _ rfl (.slice a4 4 rF) 4 [.int .i64 (aJ [s.name]),.int .i64 (aJ s.params),.int .i64 (aJ s.locals),.int .i64 (aJ [s.entry])] rfl w2.heap.size (xw.out.alloc _) [5] wy.heap.size rfl (ay _ _) (by simp) (by have:=K4.out.size;simp;omega) (K4.out.alloc _) (Nat.le_refl _) ?_);intro a5 c_5 w5 jg jh _;have Jm:Hid (aO w5 w2.heap.size 25 1 (.slice a5 5 c_5) 5 [.int .i64 (aJ [s.name]),.int .i64 (aJ s.params),.int .i64 (aJ s.locals),.int .i64 (aJ [s.entry]),.int .i64 (5)]):=jg;have K5:=ah jh;clear jg jh;clear c0 c1 c2 c3 c4 c5 c6 c7 c8 c9 c10 c11 c12 c13 c14 c15 c16 c17 c18 c19 c20 c21 dU c23;obtain ⟨c0,c1,c2,c3,c4,c5,c6,c7,c8,c9,c10,c11,c12,c13,c14,c15,c16,c17,c18,c19,c20,c21,dU,c23⟩:=(HB2.out.kept K5.out (fun h=>h)).cells)
          go_meet
          exact ⟨[aJ [s.name],aJ s.params,aJ s.locals,aJ [s.entry],5],a5,c_5,rfl,by simp,Jm.out,EK,K5.out⟩
        ·have EK:Hid (iJ s=dL [aJ [s.name],aJ s.params,aJ s.locals,aJ [s.entry]]):=by unfold Hid;rw [EQ.out,if_neg hm];simp [dL]
         have x1:decide ((8:Int)<(s.params.length:Int))=false:=au (by omega)
         have x2:decide ((8:Int)<(s.locals.length:Int))=false:=au (by omega)
         clear hm
         go_wp2_with fail
         go_meet
         exact ⟨[aJ [s.name],aJ s.params,aJ s.locals,aJ [s.entry]],a4,rF,rfl,by simp,xw.out,EK,K4.out⟩
      have n7:=hkd;clear hkd
      have fin:Hid (iJ s=1):=by unfold Hid iJ;rw [if_neg n1,if_neg n2,if_neg n4,if_neg n3,if_neg n5,if_neg n6,if_neg n7]
      have z1:(s.kind==1)=false:=by simpa using n1
      have z2:(s.kind==2)=false:=by simpa using n2
      have z4:(s.kind==4)=false:=by simpa using n4
      have z3:(s.kind==3)=false:=by simpa using n3
      have z5:(s.kind==5)=false:=by simpa using n5
      have z6:(s.kind==6)=false:=by simpa using n6
      have z7:(s.kind==7)=false:=by simpa using n7
      clear n1 n2 n4 n3 n5 n6 n7
      go_wp2_with fail
      go_ret
      exact ⟨by rw [heq.out,fin.out];try rfl,CS.out⟩
     case rest =>
      obtain ⟨es,a3,c_3,rfl,hes,hW,EK,hK⟩:=hcut
      have K3:=ah (CS.out.trans hK)
      have HW:=ah hW
      have hq:=ah (heq.out.trans EK.out)
      clear hW hK HL
      clear c0 c1 c2 c3 c4 c5 c6 c7 c8 c9 c10 c11 c12 c13 c14 c15 c16 c17 c18 c19 c20 c21 dU c23
      go_wp2_with fail
      go_loop [143] (fun i=>∃j:Nat,j≤es.length∧i=.int .i64 j∧Hid (dL es=dL (es.drop j))) (fun i=>es.length-(intOf i).toNat)
      case atStart=>exact ⟨0,Nat.zero_le _,rfl,by unfold Hid;rw [List.drop_zero]⟩
      case round =>
       obtain ⟨j,hj,rfl,hno⟩:=hrel
       by_cases hlt:j<es.length
       ·rcases HW.out.cells with ⟨hv,h0⟩|⟨g,o,cap,hv,_,_,_,_,hc⟩
        ·omega
        ·simp only [Value.slice.injEq,true_and] at hv
         obtain ⟨rfl,rfl⟩:=hv
         obtain ⟨hcj,_⟩:=hc j (.int .i64 es[j]) (by rw [List.getElem?_map,List.getElem?_eq_getElem hlt];rfl)
         have hd:=QL es j hlt
         clear hc
         by_cases hz:es[j]=0
         ·rw [if_pos hz] at hd
          have step:=ah (hno.out.trans hd)
          have hb:(es[j] != 0)=false:=by simpa using hz
          clear hd hz
          go_wp2_with fail
          go_round
          case rel=>exact ⟨j+1,by omega,by go_num,step⟩
          case measure=>simp [intOf];omega
         ·rw [if_neg hz] at hd
          have fin:=ah (hq.out.trans (hno.out.trans hd))
          have hb:(es[j] != 0)=true:=by simpa using hz
          clear hd hz
          go_wp2_with fail
          go_ret
          exact ⟨by rw [fin.out];try rfl,K3.out⟩
       ·obtain rfl:j=es.length:=by omega
        have fin:=ah (hq.out.trans (hno.out.trans (show dL (es.drop es.length)=0 by rw [List.drop_length,dL])))
        go_wp2_with fail
        go_ret
        exact ⟨by rw [fin.out];try rfl,K3.out⟩
end Go.Proofs.YtgoijmpahffnhaaGreatDoor
