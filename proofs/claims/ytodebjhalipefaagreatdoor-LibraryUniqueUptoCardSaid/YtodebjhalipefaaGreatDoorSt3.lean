/-  -/
import Derived.Test.YtodebjhalipefaaGreatDoorLq2
namespace Go.Proofs.YtodebjhalipefaaGreatDoor
set_option linter.all false
open Go.RowKit
set_option maxRecDepth 100000
set_option maxHeartbeats 4000000
def kP (s:aF):List aj:=[s.label,s.always,s.yes,s.bU]
def uS:List aj→Bool
 | []=>true
 | x::r=>uQ x&&uS r
theorem Zj (l:List aj) (j:Nat) (h:j<l.length):uS (l.drop j)=(uQ l[j]&&uS (l.drop (j+1))):=by
 rw [List.drop_eq_getElem_cons h,uS]
theorem Zk {s:aF} (h:ql s) (j:Nat) (hj:j<(kP s).length):((kP s)[j]).size<1000000000:=by
 have:∀x∈kP s,x.size<1000000000:=by
  intro x hx
  simp only [kP,List.mem_cons,List.not_mem_nil,or_false] at hx
  rcases hx with rfl|rfl|rfl|rfl
  ·exact h.label
  ·exact h.always
  ·exact h.yes
  ·exact h.bU
 exact this _ (List.getElem_mem hj)
theorem QS {s:aF} (h:uS (kP s)=false):jG s=7:=by
 unfold jG
 rw [if_pos]
 simp only [kP,uS,Bool.and_true] at h
 intro hc
 rw [hc.1,hc.2.1,hc.2.2.1,hc.2.2.2] at h
 cases h
theorem Ls {x:aj} {b:Bool} (h:uQ x=b):(x.size=0∧x.toList.isEmpty=true∧b=true)∨(x.size≠0∧x.toList.isEmpty=false∧fQ x=b):=by
 unfold uQ at h
 by_cases h0:x.size=0
 ·exact .inl ⟨h0,pI.2 h0,by rw [←h];simp [h0]⟩
 ·exact .inr ⟨h0,jD.2 (by omega),by rw [←h];simp [h0]⟩
def pU (s:aF):Bool:=!s.always.toList.isEmpty&&(!s.yes.toList.isEmpty||!s.bU.toList.isEmpty)
theorem Zl (s:aF):(s.always.toList.isEmpty=true∧pU s=false)∨(s.always.toList.isEmpty=false∧s.yes.toList.isEmpty=false∧pU s=true)∨
  (s.always.toList.isEmpty=false∧s.yes.toList.isEmpty=true∧s.bU.toList.isEmpty=false∧pU s=true)∨(s.always.toList.isEmpty=false∧s.yes.toList.isEmpty=true∧s.bU.toList.isEmpty=true∧pU s=false):=by
 unfold pU
 cases s.always.toList.isEmpty<;>cases s.yes.toList.isEmpty<;>cases s.bU.toList.isEmpty<;>simp
theorem Iu (s:aF):pU s=true↔s.always.size≠0∧(s.yes.size≠0∨s.bU.size≠0):=by
 unfold pU
 simp only [Bool.and_eq_true,Bool.or_eq_true,Bool.not_eq_true']
 rw [jD,jD,jD]
 omega
theorem Qd {s:aF} (h:uS (kP s)=true):uQ s.label=true∧uQ s.always=true∧uQ s.yes=true∧uQ s.bU=true:=by
 simpa [kP,uS] using h
theorem VE {s:aF} (h:uS (kP s)=true) (hb:pU s=true):jG s=8:=by
 unfold jG
 rw [if_neg (fun hc=>hc (Qd h)),if_pos ((Iu s).1 hb)]
def iJ (s:aF):Int :=
 if s.kind=1 then 0
 else if s.kind=2 then aV s.value
 else if s.kind=4 then dK [aV s.value,bJ s.pat]
 else if s.kind=3 then dK [aV s.target,if isTarget s.target then 0 else 8,aV s.value]
 else if s.kind=5 then dK [aV s.target,if isTarget s.target then 0 else 8,bJ s.pat,aV s.value]
 else if s.kind=6 then dK [aJ [s.name],bJ s.pat]
 else if s.kind=7 then dK [aJ [s.name],aJ s.params,aJ s.locals,aJ [s.entry],if 8<s.params.length∨8<s.locals.length then 5 else 0]
 else 1
theorem QT {s:aF} (h:uS (kP s)=true) (hb:pU s=false):jG s=iJ s:=by
 unfold jG iJ
 rw [if_neg (fun hc=>hc (Qd h)),if_neg (fun hc=>by rw [(Iu s).2 hc] at hb;cases hb)]
def ag3 (s:aF) (w0:World) (l:Value) (w:World):Prop :=
 ∃(es:List Int) (a:Option Addr) (c:Nat),l=.slice a es.length c∧es.length≤10∧aP w w0.heap.size 33 1 (.slice a es.length c) es.length (es.map (Value.int .i64))∧Hid (iJ s=dK es)∧Kept aA w0 w
theorem abh (s:aF) (v:Value) (S:Nat→Prop) (w:World) (hs:StV w S v s) (hS:Safe S aA w.heap.size):Calls Tryz.prog 74 #[v] w (ZM (jG s) w):=by
 obtain ⟨a,rfl,hz,ho⟩:=hs
 unfold dN
 have B1:=bT.new w a s
 have k1:Kept aA w _:=(Kept.refl aA w).alloc (.cells (bM a s).toArray 69)
 unfold bM at k1
 generalize hw1:World.alloc w _=w1 at B1 k1
 have HB1:=ah B1;have uj:=ah k1;have HW1:=ah hw1
 obtain ⟨c0,c1,c2,c3,c4,c5,c6,c7,c8,c9,c10,c11,c12,c13,c14,c15,c16,c17,c18,c19,c20,c21,dS,c23⟩:=B1.cells
 have HZ:=ah hz
 have HO:=ah ho;have HS:=ah hS
 clear B1 k1 hw1 hz ho hS
 go_enter Tryz.func74, Tryz.ntmps74
 go_upto_region 1 with fail
 rw [HW1.out]
 go_upto_region 2 with fail
 obtain ⟨w2,hw2⟩:∃w2,w2=(w1.alloc (.cells #[.string s.label,.string s.always,.string s.yes,.string s.bU] 9)):=⟨_,rfl⟩
 rw [←hw2]
 have hrow:w2.heap[w1.heap.size]?=some (.cells ((kP s).map Value.string).toArray 9 (0,0)):=by rw [hw2];exact ay w1 _
 have k2:Kept aA w1 w2:=by rw [hw2];exact (Kept.refl aA _).alloc _
 have HL:Hid (aX w2 (· = w1.heap.size) (some ⟨w1.heap.size,0,none⟩) (kP s)):=xK hrow rfl
 have HB2:=ah (HB1.out.kept k2 (fun h=>h));have Bl:=ah (uj.out.trans k2)
 clear hrow hw2 k2 c0 c1 c2 c3 c4 c5 c6 c7 c8 c9 c10 c11 c12 c13 c14 c15 c16 c17 c18 c19 c20 c21 dS c23 HW1 HB1 uj
 go_loop [18] (fun i=>∃j:Nat,j≤4∧i=.int .i64 j∧Hid (uS (kP s)=uS ((kP s).drop j))) (fun i=>4-(intOf i).toNat)
 case atStart=>exact ⟨0,Nat.zero_le _,rfl,by unfold Hid;rw [List.drop_zero]⟩
 case round =>
  obtain ⟨j,hj,rfl,hno⟩:=hrel
  by_cases hlt:j<4
  ·have hcj:w2.cell? ⟨w1.heap.size,0+j,none⟩=some (.string (kP s)[j]):=by
    obtain ⟨b,o,e,_,hc⟩:=HL.out (by show 0<4;decide)
    simp only [Option.some.injEq,Addr.mk.injEq,and_true] at e
    obtain ⟨rfl,rfl⟩:=e
    exact hc j hlt
   rw [Nat.zero_add] at hcj
   have hd:=Zj (kP s) j hlt
   have hsz:=Zk HZ.out j hlt
   have hsl:((kP s)[j]).size≤maxLen:=by unfold maxLen;omega
   generalize (kP s)[j]=x at hcj hd hsz hsl
   have hn:=ah hno.out
   cases hb:uQ x with
   | true =>
    rw [hb,Bool.true_and] at hd
    have step:=ah (hno.out.trans hd)
    rcases Ls hb with ⟨_,e1,_⟩|⟨_,e1,e2⟩
    ·clear hd hb
     go_wp2_with fail
     go_round
     case rel=>exact ⟨j+1,by omega,by go_num,step⟩
     case measure=>simp [intOf];omega
    ·have E2:=ah e2
     clear hd hb e2
     go_wp2_with (go_at_call 108;(with_reducible refine (ru _ _ hsl).mono ?_);rintro e w' ⟨rfl,rfl⟩;rw [E2.out])
     go_round
     case rel=>exact ⟨j+1,by omega,by go_num,step⟩
     case measure=>simp [intOf];omega
   | false =>
    rw [hb,Bool.false_and] at hd
    have fin:=ah (QS (hno.out.trans hd))
    rcases Ls hb with ⟨_,_,e2⟩|⟨_,e1,e2⟩
    ·cases e2
    ·have E2:=ah e2
     clear hd hb e2
     go_wp2_with (go_at_call 108;(with_reducible refine (ru _ _ hsl).mono ?_);rintro e w' ⟨rfl,rfl⟩;rw [E2.out])
     go_ret
     exact ⟨by rw [fin.out];try rfl,Bl.out⟩
  ·obtain rfl:j=4:=by omega
   have hlab:Hid (uS (kP s)=true):=by unfold Hid;rw [hno.out];rfl
   obtain ⟨c0,c1,c2,c3,c4,c5,c6,c7,c8,c9,c10,c11,c12,c13,c14,c15,c16,c17,c18,c19,c20,c21,dS,c23⟩:=HB2.out.cells
   go_upto_region 7 with fail
   go_cut [42] (fun c wx=>c=.bool (pU s)∧w2=wx)
   case first =>
    rcases Zl s with ⟨e1,e2⟩|⟨e1,e2,e3⟩|⟨e1,e2,e3,e4⟩|⟨e1,e2,e3,e4⟩
    all_goals
     clear HL HO HS HZ
     go_wp2_with fail
     go_meet
     exact ⟨by first|rw [e2]|rw [e3]|rw [e4],rfl⟩
   case rest =>
    obtain ⟨rfl,rfl⟩:=hcut
    cases hbad:pU s with
    | true =>
     have fin:=ah (VE hlab.out hbad)
     clear hbad
     go_wp2_with fail
     go_ret
     exact ⟨by rw [fin.out];try rfl,Bl.out⟩
    | false =>
     have heq:=ah (QT hlab.out hbad)
     clear hbad
     have Tn:Hid (vJ w2 S a s):=HO.out.to Bl.out HS.out (fun _ h=>h)
     go_upto_block 2 with fail
     go_cut [5] (fun l wx=>ag3 s w2 l wx)
     case first =>
      clear HL hj hno hlt hlab
      have Bg:Hid (ou w2 S (.agg #[.int .i64 s.target.kind,.string s.target.text,.int .i64 s.target.n,.string s.target.name,.slice a.ta s.target.kids.length a.tc]) s.target):=⟨a.ta,a.tc,rfl,HZ.out.target.z,Tn.out.target⟩
      have wS:Hid (ou w2 S (.agg #[.int .i64 s.value.kind,.string s.value.text,.int .i64 s.value.n,.string s.value.name,.slice a.va s.value.kids.length a.vc]) s.value):=⟨a.va,a.vc,rfl,HZ.out.value.z,Tn.out.value⟩
      have MF:Hid (ou w2 S (.agg #[.int .i64 s.pat.kind,.string s.pat.text,.int .i64 s.pat.n,.string s.pat.name,.slice a.pa s.pat.kids.length a.pc]) s.pat):=⟨a.pa,a.pc,rfl,HZ.out.pat.z,Tn.out.pat⟩
      have SS:Hid (Safe S aA w2.heap.size):=HS.out.mono Bl.out.size
      have Iw:Hid (Kept aA w2 w2):=Kept.refl _ _
      by_cases hkd:s.kind=1
      ·have EK:Hid (iJ s=dK []):=by unfold Hid;unfold iJ;rw [if_pos hkd];rfl
       have z1:(s.kind==1)=true:=by rw [hkd];rfl
       clear hkd
       go_wp2_with fail
       go_meet
       exact ⟨[],none,0,rfl,by simp,aP.nil ..,EK,Kept.refl _ _⟩
      have n1:=hkd;clear hkd
      by_cases hkd:s.kind=2
      ·have EK:Hid (iJ s=dK [aV s.value]):=by unfold Hid;unfold iJ;rw [if_neg (by omega),if_pos hkd];simp [dK]
       have z1:(s.kind==1)=false:=by rw [hkd];rfl
       have z2:(s.kind==2)=true:=by rw [hkd];rfl
       clear hkd
       go_wp2_with fail
       refine (oV s.value _ S _ (wS.out.oH Iw.out SS.out) (SS.out.mono Iw.out.size) (by have:=HZ.out.value.t;omega)).mono ?_
       rintro e w3 ⟨rfl,k_⟩
       have K3:=ah (Iw.out.trans k_)
       clear k_
       clear c0 c1 c2 c3 c4 c5 c6 c7 c8 c9 c10 c11 c12 c13 c14 c15 c16 c17 c18 c19 c20 c21 dS c23;obtain ⟨c0,c1,c2,c3,c4,c5,c6,c7,c8,c9,c10,c11,c12,c13,c14,c15,c16,c17,c18,c19,c20,c21,dS,c23⟩:=(HB2.out.kept K3.out (fun h=>h)).cells
       go_wp2_with (at_builtin;go_loud (refine gX (w0:=w2) rfl _ _ rfl (.slice none 0 0) 0 [] rfl w2.heap.size (aP.nil ..) [aV s.value] w3.heap.size rfl (ay _ _) (by simp) (by have:=K3.out.size;simp;omega) (K3.out.alloc _) (Nat.le_refl _) ?_);intro a4 qK w4 je jf _;have vX:Hid (aP w4 w2.heap.size 33 1 (.slice a4 1 qK) 1 [.int .i64 (aV s.value)]):=je;have K4:=ah jf;clear je jf;clear c0 c1 c2 c3 c4 c5 c6 c7 c8 c9 c10 c11 c12 c13 c14 c15 c16 c17 c18 c19 c20 c21 dS c23;obtain ⟨c0,c1,c2,c3,c4,c5,c6,c7,c8,c9,c10,c11,c12,c13,c14,c15,c16,c17,c18,c19,c20,c21,dS,c23⟩:=(HB2.out.kept K4.out (fun h=>h)).cells)
       go_meet
       exact ⟨[aV s.value],a4,qK,rfl,by simp,vX.out,EK,K4.out⟩
      have n2:=hkd;clear hkd
      by_cases hkd:s.kind=4
      ·have z1:(s.kind==1)=false:=by rw [hkd];rfl
       have z2:(s.kind==2)=false:=by rw [hkd];rfl
       have z4:(s.kind==4)=true:=by rw [hkd];rfl
       have EK:Hid (iJ s=dK [aV s.value,bJ s.pat]):=by unfold Hid;unfold iJ;rw [if_neg (by omega),if_neg (by omega),if_pos hkd]
       clear hkd
       go_upto_region 16 with fail
       obtain ⟨Sp,hSp⟩:∃Sp:Nat→Value→World→Prop,Sp=(fun i v wx=>match i with
        | 0=>v=.slice none 0 0
        | 1=>v=.pointer (some ⟨w.heap.size,7,none⟩)
        | 2=>v=.agg #[.int .i64 s.value.kind,.string s.value.text,.int .i64 s.value.n,.string s.value.name,.slice a.va s.value.kids.length a.vc]
        | 3=>v=.int .i64 (aV s.value)
        | 4=>v=.pointer (some ⟨w.heap.size,12,none⟩)
        | 5=>v=.agg #[.int .i64 s.pat.kind,.string s.pat.text,.int .i64 s.pat.n,.string s.pat.name,.slice a.pa s.pat.kids.length a.pc]
        | 6=>v=.int .i64 (bJ s.pat)
        | 7=>∃g,v=.slice (some ⟨g,0,none⟩) 2 2∧g<wx.heap.size∧wx.heap[g]?=some (.cells #[.int .i64 (aV s.value),.int .i64 (bJ s.pat)] 33 (0,0))
        | 8=>∃a' c',v=.slice a' 2 c'∧aP wx w2.heap.size 33 1 (.slice a' 2 c') 2 [.int .i64 (aV s.value),.int .i64 (bJ s.pat)]
        | _=>∃a' c',v=.slice a' 2 c'∧aP wx w2.heap.size 33 1 (.slice a' 2 c') 2 [.int .i64 (aV s.value),.int .i64 (bJ s.pat)]):=⟨_,rfl⟩
       refine CZ Sp [57,58,59,60,61,62,63,64,65,5] (by kernel_rfl) (by kernel_rfl) (by kernel_rfl) (fun i v w w' h hk=>by
         subst hSp
         rcases i with _|_|_|_|_|_|_|_|_|_|i
         all_goals (first
          | exact h
          | (obtain ⟨g,h1,h2,h3⟩:=h;exact ⟨g,h1,Nat.lt_of_lt_of_le h2 hk.size,by rw [hk.block g h2 (fun h=>h)];exact h3⟩)
          | (obtain ⟨a,c,h1,h2⟩:=h;exact ⟨a,c,h1,h2.kept hk (fun _ _ h=>h)⟩))) ?_ ?_
       ·intro i o hi l x wy hI hlf haft
        have e1:x.eval (.tmp 1)=.pointer (some ⟨w.heap.size,0,none⟩):=hI.keep 1 _ rfl (by kernel_rfl)
        have hO2:=Tn.out
        have B3:=HB2.out.kept hI.kept (fun h=>h)
        clear c0 c1 c2 c3 c4 c5 c6 c7 c8 c9 c10 c11 c12 c13 c14 c15 c16 c17 c18 c19 c20 c21 dS c23
        obtain ⟨c0,c1,c2,c3,c4,c5,c6,c7,c8,c9,c10,c11,c12,c13,c14,c15,c16,c17,c18,c19,c20,c21,dS,c23⟩:=B3.cells
        rcases i with _|_|_|_|_|_|_|_|_|_|i
        all_goals (simp only [List.getElem?_toArray,List.getElem?_cons_zero,List.getElem?_cons_succ,List.getElem?_nil,Option.some.injEq,reduceCtorEq] at hi)
        all_goals subst hi
        ·have e5:x.eval (.tmp 5)=.slice none 0 0:=hI.late hlf 9 5 rfl rfl rfl _ rfl
         refine gZ (v:=.slice none 0 0) ?_ (by subst hSp;exact rfl)
         simp only [execOp,resolve,invoke,List.map_toArray,List.map_cons,List.map_nil,e5];go_simp
        ·refine gZ (v:=.pointer (some ⟨w.heap.size,7,none⟩)) ?_ (by subst hSp;exact rfl)
         simp only [execOp,resolve,invoke,List.map_toArray,List.map_cons,List.map_nil,e1];go_simp
        ·have d58:x.eval (.tmp 58)=.pointer (some ⟨w.heap.size,7,none⟩):=by have h_:=hI.dep haft 1 58 rfl rfl rfl;rw [hSp] at h_;exact h_
         refine gZ (v:=.agg #[.int .i64 s.value.kind,.string s.value.text,.int .i64 s.value.n,.string s.value.name,.slice a.va s.value.kids.length a.vc]) ?_ (by subst hSp;exact rfl)
         simp only [execOp,resolve,invoke,List.map_toArray,List.map_cons,List.map_nil,d58];go_simp
        ·have d59:x.eval (.tmp 59)=.agg #[.int .i64 s.value.kind,.string s.value.text,.int .i64 s.value.n,.string s.value.name,.slice a.va s.value.kids.length a.vc]:=by have h_:=hI.dep haft 2 59 rfl rfl rfl;rw [hSp] at h_;exact h_
         refine rM (f:=109) (args:=#[.agg #[.int .i64 s.value.kind,.string s.value.text,.int .i64 s.value.n,.string s.value.name,.slice a.va s.value.kids.length a.vc]]) ?_ ?_
         ·simp only [execOp,resolve,invoke,List.map_toArray,List.map_cons,List.map_nil,d59];go_simp
         ·exact (oV s.value _ S _ (wS.out.oH hI.kept SS.out) (SS.out.mono hI.kept.size) (by have:=HZ.out.value.t;omega)).mono fun e w' h=>⟨_,h.1,by subst hSp;exact rfl,h.2⟩
        ·refine gZ (v:=.pointer (some ⟨w.heap.size,12,none⟩)) ?_ (by subst hSp;exact rfl)
         simp only [execOp,resolve,invoke,List.map_toArray,List.map_cons,List.map_nil,e1];go_simp
        ·have d61:x.eval (.tmp 61)=.pointer (some ⟨w.heap.size,12,none⟩):=by have h_:=hI.dep haft 4 61 rfl rfl rfl;rw [hSp] at h_;exact h_
         refine gZ (v:=.agg #[.int .i64 s.pat.kind,.string s.pat.text,.int .i64 s.pat.n,.string s.pat.name,.slice a.pa s.pat.kids.length a.pc]) ?_ (by subst hSp;exact rfl)
         simp only [execOp,resolve,invoke,List.map_toArray,List.map_cons,List.map_nil,d61];go_simp
        ·have d62:x.eval (.tmp 62)=.agg #[.int .i64 s.pat.kind,.string s.pat.text,.int .i64 s.pat.n,.string s.pat.name,.slice a.pa s.pat.kids.length a.pc]:=by have h_:=hI.dep haft 5 62 rfl rfl rfl;rw [hSp] at h_;exact h_
         refine rM (f:=110) (args:=#[.agg #[.int .i64 s.pat.kind,.string s.pat.text,.int .i64 s.pat.n,.string s.pat.name,.slice a.pa s.pat.kids.length a.pc]]) ?_ ?_
         ·simp only [execOp,resolve,invoke,List.map_toArray,List.map_cons,List.map_nil,d62];go_simp
         ·exact (yR s.pat _ _ ((MF.out.oH hI.kept SS.out).all (SS.out.mono hI.kept.size)) (by have:=HZ.out.pat.t;omega)).mono fun e w' h=>⟨_,h.1,by subst hSp;exact rfl,h.2⟩
        ·have d60:x.eval (.tmp 60)=.int .i64 (aV s.value):=by have h_:=hI.dep haft 3 60 rfl rfl rfl;rw [hSp] at h_;exact h_
         have d63:x.eval (.tmp 63)=.int .i64 (bJ s.pat):=by have h_:=hI.dep haft 6 63 rfl rfl rfl;rw [hSp] at h_;exact h_
         refine zI (v:=.slice (some ⟨wy.heap.size,0,none⟩) 2 2) (w':=wy.alloc (.cells #[.int .i64 (aV s.value),.int .i64 (bJ s.pat)] 33)) ?_ ((Kept.refl _ _).alloc _) (by subst hSp;exact ⟨_,rfl,by simp,ay _ _⟩)
         simp only [execOp,resolve,invoke,List.map_toArray,List.map_cons,List.map_nil,d60,d63];go_simp
        ·have d57:x.eval (.tmp 57)=.slice none 0 0:=by have h_:=hI.dep haft 0 57 rfl rfl rfl;rw [hSp] at h_;exact h_
         have d64:∃g,x.eval (.tmp 64)=.slice (some ⟨g,0,none⟩) 2 2∧g<wy.heap.size∧wy.heap[g]?=some (.cells #[.int .i64 (aV s.value),.int .i64 (bJ s.pat)] 33 (0,0)):=by have h_:=hI.dep haft 7 64 rfl rfl rfl;rw [hSp] at h_;exact h_
         obtain ⟨g,hv,_,hg⟩:=d64
         exact MO _ _ rfl d57 [aV s.value,bJ s.pat] g hv hg (by simp) w2.heap.size hI.kept.size fun a' c' w' hW=>by subst hSp;exact ⟨a',c',rfl,hW⟩
        ·have d65:∃a' c',x.eval (.tmp 65)=.slice a' 2 c'∧aP wy w2.heap.size 33 1 (.slice a' 2 c') 2 [.int .i64 (aV s.value),.int .i64 (bJ s.pat)]:=by have h_:=hI.dep haft 8 65 rfl rfl rfl;rw [hSp] at h_;exact h_
         obtain ⟨a',c',hv,hW⟩:=d65
         refine gZ (v:=.slice a' 2 c') ?_ (by subst hSp;exact ⟨_,_,rfl,hW⟩)
         simp only [execOp,resolve,invoke,List.map_toArray,List.map_cons,List.map_nil,hv];go_simp
       ·intro f wy hK hS
        have Lu:=hS 9 _ 5 rfl rfl
        rw [hSp] at Lu
        obtain ⟨a4,qK,e5,LC⟩:=Lu
        have vX:Hid (aP wy w2.heap.size 33 1 (.slice a4 2 qK) 2 [.int .i64 (aV s.value),.int .i64 (bJ s.pat)]):=LC
        have K4:=ah hK
        clear hK hS LC
        clear c0 c1 c2 c3 c4 c5 c6 c7 c8 c9 c10 c11 c12 c13 c14 c15 c16 c17 c18 c19 c20 c21 dS c23;obtain ⟨c0,c1,c2,c3,c4,c5,c6,c7,c8,c9,c10,c11,c12,c13,c14,c15,c16,c17,c18,c19,c20,c21,dS,c23⟩:=(HB2.out.kept K4.out (fun h=>h)).cells
        simp only [gQ,List.foldl_cons,List.foldl_nil,List.setIfInBounds_toArray,List.set_cons_zero,List.set_cons_succ,e5]
        clear e5
        go_wp2_with fail
        go_meet
        exact ⟨[aV s.value,bJ s.pat],a4,qK,rfl,by simp,vX.out,EK,K4.out⟩
      have n4:=hkd;clear hkd
      by_cases hkd:s.kind=3
      ·have z1:(s.kind==1)=false:=by rw [hkd];rfl
       have z2:(s.kind==2)=false:=by rw [hkd];rfl
       have z4:(s.kind==4)=false:=by rw [hkd];rfl
       have z3:(s.kind==3)=true:=by rw [hkd];rfl
       have z5:(s.kind==5)=false:=by rw [hkd];rfl
       have Zm:=ah hkd
       clear hkd
       go_wp2_with fail
       refine (oV s.target _ S _ (Bg.out.oH Iw.out SS.out) (SS.out.mono Iw.out.size) (by have:=HZ.out.target.t;omega)).mono ?_
       rintro e w3 ⟨rfl,k_⟩
       have K3:=ah (Iw.out.trans k_)
       clear k_
       clear c0 c1 c2 c3 c4 c5 c6 c7 c8 c9 c10 c11 c12 c13 c14 c15 c16 c17 c18 c19 c20 c21 dS c23;obtain ⟨c0,c1,c2,c3,c4,c5,c6,c7,c8,c9,c10,c11,c12,c13,c14,c15,c16,c17,c18,c19,c20,c21,dS,c23⟩:=(HB2.out.kept K3.out (fun h=>h)).cells
       go_wp2_with (at_builtin;go_loud (refine gX (w0:=w2) rfl _ _ rfl (.slice none 0 0) 0 [] rfl w2.heap.size (aP.nil ..) [aV s.target] w3.heap.size rfl (ay _ _) (by simp) (by have:=K3.out.size;simp;omega) (K3.out.alloc _) (Nat.le_refl _) ?_);intro a4 qK w4 je jf _;have vX:Hid (aP w4 w2.heap.size 33 1 (.slice a4 1 qK) 1 [.int .i64 (aV s.target)]):=je;have K4:=ah jf;clear je jf;clear c0 c1 c2 c3 c4 c5 c6 c7 c8 c9 c10 c11 c12 c13 c14 c15 c16 c17 c18 c19 c20 c21 dS c23;obtain ⟨c0,c1,c2,c3,c4,c5,c6,c7,c8,c9,c10,c11,c12,c13,c14,c15,c16,c17,c18,c19,c20,c21,dS,c23⟩:=(HB2.out.kept K4.out (fun h=>h)).cells)
       refine (Ir s.target _ S _ (Bg.out.oH K4.out SS.out)).mono ?_
       rintro e w5 ⟨rfl,k_⟩
       have K5:=ah (K4.out.trans k_)
       have Iy:=ah (vX.out.kept k_ (fun _ _ h=>h))
       clear k_
       clear c0 c1 c2 c3 c4 c5 c6 c7 c8 c9 c10 c11 c12 c13 c14 c15 c16 c17 c18 c19 c20 c21 dS c23;obtain ⟨c0,c1,c2,c3,c4,c5,c6,c7,c8,c9,c10,c11,c12,c13,c14,c15,c16,c17,c18,c19,c20,c21,dS,c23⟩:=(HB2.out.kept K5.out (fun h=>h)).cells
       by_cases ht:isTarget s.target
       ·have EK:Hid (iJ s=dK [aV s.target,aV s.value]):=by have hkd:=Zm.out;unfold Hid;unfold iJ;rw [if_neg (by omega),if_neg (by omega),if_neg (by omega),if_pos hkd];rw [if_pos ht];simp [dK]
        have hb:decide (isTarget s.target)=true:=ak ht
        rw [hb]
        clear hb ht
        go_wp2_with fail
        refine (oV s.value _ S _ (wS.out.oH K5.out SS.out) (SS.out.mono K5.out.size) (by have:=HZ.out.value.t;omega)).mono ?_
        rintro e w6 ⟨rfl,k_⟩
        have K6:=ah (K5.out.trans k_)
        have EW:=ah (Iy.out.kept k_ (fun _ _ h=>h))
        clear k_
        clear c0 c1 c2 c3 c4 c5 c6 c7 c8 c9 c10 c11 c12 c13 c14 c15 c16 c17 c18 c19 c20 c21 dS c23;obtain ⟨c0,c1,c2,c3,c4,c5,c6,c7,c8,c9,c10,c11,c12,c13,c14,c15,c16,c17,c18,c19,c20,c21,dS,c23⟩:=(HB2.out.kept K6.out (fun h=>h)).cells
        go_wp2_with (at_builtin;go_loud (refine gX (w0:=w2) rfl _ _ rfl (.slice a4 1 qK) 1 [.int .i64 (aV s.target)] rfl w2.heap.size (EW.out.alloc _) [aV s.value] w6.heap.size rfl (ay _ _) (by simp) (by have:=K6.out.size;simp;omega) (K6.out.alloc _) (Nat.le_refl _) ?_);intro a7 Zn w7 je jf _;have Qe:Hid (aP w7 w2.heap.size 33 1 (.slice a7 2 Zn) 2 [.int .i64 (aV s.target),.int .i64 (aV s.value)]):=je;have K7:=ah jf;clear je jf;clear c0 c1 c2 c3 c4 c5 c6 c7 c8 c9 c10 c11 c12 c13 c14 c15 c16 c17 c18 c19 c20 c21 dS c23;obtain ⟨c0,c1,c2,c3,c4,c5,c6,c7,c8,c9,c10,c11,c12,c13,c14,c15,c16,c17,c18,c19,c20,c21,dS,c23⟩:=(HB2.out.kept K7.out (fun h=>h)).cells)
        go_meet
        exact ⟨[aV s.target,aV s.value],a7,Zn,rfl,by simp,Qe.out,EK,K7.out⟩
       ·have EK:Hid (iJ s=dK [aV s.target,8,aV s.value]):=by have hkd:=Zm.out;unfold Hid;unfold iJ;rw [if_neg (by omega),if_neg (by omega),if_neg (by omega),if_pos hkd];rw [if_neg ht]
        have hb:decide (isTarget s.target)=false:=au ht
        rw [hb]
        clear hb ht
        go_wp2_with (at_builtin;go_loud (refine gX (w0:=w2) rfl _ _ rfl (.slice a4 1 qK) 1 [.int .i64 (aV s.target)] rfl w2.heap.size (Iy.out.alloc _) [8] w5.heap.size rfl (ay _ _) (by simp) (by have:=K5.out.size;simp;omega) (K5.out.alloc _) (Nat.le_refl _) ?_);intro a6 Zo w6 je jf _;have EW:Hid (aP w6 w2.heap.size 33 1 (.slice a6 2 Zo) 2 [.int .i64 (aV s.target),.int .i64 (8)]):=je;have K6:=ah jf;clear je jf;clear c0 c1 c2 c3 c4 c5 c6 c7 c8 c9 c10 c11 c12 c13 c14 c15 c16 c17 c18 c19 c20 c21 dS c23;obtain ⟨c0,c1,c2,c3,c4,c5,c6,c7,c8,c9,c10,c11,c12,c13,c14,c15,c16,c17,c18,c19,c20,c21,dS,c23⟩:=(HB2.out.kept K6.out (fun h=>h)).cells)
        refine (oV s.value _ S _ (wS.out.oH K6.out SS.out) (SS.out.mono K6.out.size) (by have:=HZ.out.value.t;omega)).mono ?_
        rintro e w7 ⟨rfl,k_⟩
        have K7:=ah (K6.out.trans k_)
        have Qe:=ah (EW.out.kept k_ (fun _ _ h=>h))
        clear k_
        clear c0 c1 c2 c3 c4 c5 c6 c7 c8 c9 c10 c11 c12 c13 c14 c15 c16 c17 c18 c19 c20 c21 dS c23;obtain ⟨c0,c1,c2,c3,c4,c5,c6,c7,c8,c9,c10,c11,c12,c13,c14,c15,c16,c17,c18,c19,c20,c21,dS,c23⟩:=(HB2.out.kept K7.out (fun h=>h)).cells
        go_wp2_with (at_builtin;go_loud (refine gX (w0:=w2) rfl _ _ rfl (.slice a6 2 Zo) 2 [.int .i64 (aV s.target),.int .i64 (8)] rfl w2.heap.size (Qe.out.alloc _) [aV s.value] w7.heap.size rfl (ay _ _) (by simp) (by have:=K7.out.size;simp;omega) (K7.out.alloc _) (Nat.le_refl _) ?_);intro a8 Zp w8 je jf _;have Zq:Hid (aP w8 w2.heap.size 33 1 (.slice a8 3 Zp) 3 [.int .i64 (aV s.target),.int .i64 (8),.int .i64 (aV s.value)]):=je;have K8:=ah jf;clear je jf;clear c0 c1 c2 c3 c4 c5 c6 c7 c8 c9 c10 c11 c12 c13 c14 c15 c16 c17 c18 c19 c20 c21 dS c23;obtain ⟨c0,c1,c2,c3,c4,c5,c6,c7,c8,c9,c10,c11,c12,c13,c14,c15,c16,c17,c18,c19,c20,c21,dS,c23⟩:=(HB2.out.kept K8.out (fun h=>h)).cells)
        go_meet
        exact ⟨[aV s.target,8,aV s.value],a8,Zp,rfl,by simp,Zq.out,EK,K8.out⟩
      have n3:=hkd;clear hkd
      by_cases hkd:s.kind=5
      ·have z1:(s.kind==1)=false:=by rw [hkd];rfl
       have z2:(s.kind==2)=false:=by rw [hkd];rfl
       have z4:(s.kind==4)=false:=by rw [hkd];rfl
       have z3:(s.kind==3)=false:=by rw [hkd];rfl
       have z5:(s.kind==5)=true:=by rw [hkd];rfl
       have z5':(s.kind==5)=true:=by rw [hkd];rfl
       have Zm:=ah hkd
       clear hkd
       go_wp2_with fail
       refine (oV s.target _ S _ (Bg.out.oH Iw.out SS.out) (SS.out.mono Iw.out.size) (by have:=HZ.out.target.t;omega)).mono ?_
       rintro e w3 ⟨rfl,k_⟩
       have K3:=ah (Iw.out.trans k_)
       clear k_
       clear c0 c1 c2 c3 c4 c5 c6 c7 c8 c9 c10 c11 c12 c13 c14 c15 c16 c17 c18 c19 c20 c21 dS c23;obtain ⟨c0,c1,c2,c3,c4,c5,c6,c7,c8,c9,c10,c11,c12,c13,c14,c15,c16,c17,c18,c19,c20,c21,dS,c23⟩:=(HB2.out.kept K3.out (fun h=>h)).cells
       go_wp2_with (at_builtin;go_loud (refine gX (w0:=w2) rfl _ _ rfl (.slice none 0 0) 0 [] rfl w2.heap.size (aP.nil ..) [aV s.target] w3.heap.size rfl (ay _ _) (by simp) (by have:=K3.out.size;simp;omega) (K3.out.alloc _) (Nat.le_refl _) ?_);intro a4 qK w4 je jf _;have vX:Hid (aP w4 w2.heap.size 33 1 (.slice a4 1 qK) 1 [.int .i64 (aV s.target)]):=je;have K4:=ah jf;clear je jf;clear c0 c1 c2 c3 c4 c5 c6 c7 c8 c9 c10 c11 c12 c13 c14 c15 c16 c17 c18 c19 c20 c21 dS c23;obtain ⟨c0,c1,c2,c3,c4,c5,c6,c7,c8,c9,c10,c11,c12,c13,c14,c15,c16,c17,c18,c19,c20,c21,dS,c23⟩:=(HB2.out.kept K4.out (fun h=>h)).cells)
       refine (Ir s.target _ S _ (Bg.out.oH K4.out SS.out)).mono ?_
       rintro e w5 ⟨rfl,k_⟩
       have K5:=ah (K4.out.trans k_)
       have Iy:=ah (vX.out.kept k_ (fun _ _ h=>h))
       clear k_
       clear c0 c1 c2 c3 c4 c5 c6 c7 c8 c9 c10 c11 c12 c13 c14 c15 c16 c17 c18 c19 c20 c21 dS c23;obtain ⟨c0,c1,c2,c3,c4,c5,c6,c7,c8,c9,c10,c11,c12,c13,c14,c15,c16,c17,c18,c19,c20,c21,dS,c23⟩:=(HB2.out.kept K5.out (fun h=>h)).cells
       by_cases ht:isTarget s.target
       ·have EK:Hid (iJ s=dK [aV s.target,bJ s.pat,aV s.value]):=by have hkd:=Zm.out;unfold Hid;unfold iJ;rw [if_neg (by omega),if_neg (by omega),if_neg (by omega),if_neg (by omega),if_pos hkd];rw [if_pos ht];simp [dK]
        have hb:decide (isTarget s.target)=true:=ak ht
        rw [hb]
        clear hb ht
        go_wp2_with fail
        refine (yR s.pat _ _ ((MF.out.oH K5.out SS.out).all (SS.out.mono K5.out.size)) (by have:=HZ.out.pat.t;omega)).mono ?_
        rintro e w6 ⟨rfl,k_⟩
        have K6:=ah (K5.out.trans k_)
        have EW:=ah (Iy.out.kept k_ (fun _ _ h=>h))
        clear k_
        clear c0 c1 c2 c3 c4 c5 c6 c7 c8 c9 c10 c11 c12 c13 c14 c15 c16 c17 c18 c19 c20 c21 dS c23;obtain ⟨c0,c1,c2,c3,c4,c5,c6,c7,c8,c9,c10,c11,c12,c13,c14,c15,c16,c17,c18,c19,c20,c21,dS,c23⟩:=(HB2.out.kept K6.out (fun h=>h)).cells
        go_wp2_with (at_builtin;go_loud (refine gX (w0:=w2) rfl _ _ rfl (.slice a4 1 qK) 1 [.int .i64 (aV s.target)] rfl w2.heap.size (EW.out.alloc _) [bJ s.pat] w6.heap.size rfl (ay _ _) (by simp) (by have:=K6.out.size;simp;omega) (K6.out.alloc _) (Nat.le_refl _) ?_);intro a7 Zn w7 je jf _;have Qe:Hid (aP w7 w2.heap.size 33 1 (.slice a7 2 Zn) 2 [.int .i64 (aV s.target),.int .i64 (bJ s.pat)]):=je;have K7:=ah jf;clear je jf;clear c0 c1 c2 c3 c4 c5 c6 c7 c8 c9 c10 c11 c12 c13 c14 c15 c16 c17 c18 c19 c20 c21 dS c23;obtain ⟨c0,c1,c2,c3,c4,c5,c6,c7,c8,c9,c10,c11,c12,c13,c14,c15,c16,c17,c18,c19,c20,c21,dS,c23⟩:=(HB2.out.kept K7.out (fun h=>h)).cells)
        refine (oV s.value _ S _ (wS.out.oH K7.out SS.out) (SS.out.mono K7.out.size) (by have:=HZ.out.value.t;omega)).mono ?_
        rintro e w8 ⟨rfl,k_⟩
        have K8:=ah (K7.out.trans k_)
        have Zq:=ah (Qe.out.kept k_ (fun _ _ h=>h))
        clear k_
        clear c0 c1 c2 c3 c4 c5 c6 c7 c8 c9 c10 c11 c12 c13 c14 c15 c16 c17 c18 c19 c20 c21 dS c23;obtain ⟨c0,c1,c2,c3,c4,c5,c6,c7,c8,c9,c10,c11,c12,c13,c14,c15,c16,c17,c18,c19,c20,c21,dS,c23⟩:=(HB2.out.kept K8.out (fun h=>h)).cells
        go_wp2_with (at_builtin;go_loud (refine gX (w0:=w2) rfl _ _ rfl (.slice a7 2 Zn) 2 [.int .i64 (aV s.target),.int .i64 (bJ s.pat)] rfl w2.heap.size (Zq.out.alloc _) [aV s.value] w8.heap.size rfl (ay _ _) (by simp) (by have:=K8.out.size;simp;omega) (K8.out.alloc _) (Nat.le_refl _) ?_);intro a9 c_9 w9 je jf _;have HW9:Hid (aP w9 w2.heap.size 33 1 (.slice a9 3 c_9) 3 [.int .i64 (aV s.target),.int .i64 (bJ s.pat),.int .i64 (aV s.value)]):=je;have K9:=ah jf;clear je jf;clear c0 c1 c2 c3 c4 c5 c6 c7 c8 c9 c10 c11 c12 c13 c14 c15 c16 c17 c18 c19 c20 c21 dS c23;obtain ⟨c0,c1,c2,c3,c4,c5,c6,c7,c8,c9,c10,c11,c12,c13,c14,c15,c16,c17,c18,c19,c20,c21,dS,c23⟩:=(HB2.out.kept K9.out (fun h=>h)).cells)
        go_meet
        exact ⟨[aV s.target,bJ s.pat,aV s.value],a9,c_9,rfl,by simp,HW9.out,EK,K9.out⟩
       ·have EK:Hid (iJ s=dK [aV s.target,8,bJ s.pat,aV s.value]):=by have hkd:=Zm.out;unfold Hid;unfold iJ;rw [if_neg (by omega),if_neg (by omega),if_neg (by omega),if_neg (by omega),if_pos hkd];rw [if_neg ht]
        have hb:decide (isTarget s.target)=false:=au ht
        rw [hb]
        clear hb ht
        go_wp2_with (at_builtin;go_loud (refine gX (w0:=w2) rfl _ _ rfl (.slice a4 1 qK) 1 [.int .i64 (aV s.target)] rfl w2.heap.size (Iy.out.alloc _) [8] w5.heap.size rfl (ay _ _) (by simp) (by have:=K5.out.size;simp;omega) (K5.out.alloc _) (Nat.le_refl _) ?_);intro a6 Zo w6 je jf _;have EW:Hid (aP w6 w2.heap.size 33 1 (.slice a6 2 Zo) 2 [.int .i64 (aV s.target),.int .i64 (8)]):=je;have K6:=ah jf;clear je jf;clear c0 c1 c2 c3 c4 c5 c6 c7 c8 c9 c10 c11 c12 c13 c14 c15 c16 c17 c18 c19 c20 c21 dS c23;obtain ⟨c0,c1,c2,c3,c4,c5,c6,c7,c8,c9,c10,c11,c12,c13,c14,c15,c16,c17,c18,c19,c20,c21,dS,c23⟩:=(HB2.out.kept K6.out (fun h=>h)).cells)
        refine (yR s.pat _ _ ((MF.out.oH K6.out SS.out).all (SS.out.mono K6.out.size)) (by have:=HZ.out.pat.t;omega)).mono ?_
        rintro e w7 ⟨rfl,k_⟩
        have K7:=ah (K6.out.trans k_)
        have Qe:=ah (EW.out.kept k_ (fun _ _ h=>h))
        clear k_
        clear c0 c1 c2 c3 c4 c5 c6 c7 c8 c9 c10 c11 c12 c13 c14 c15 c16 c17 c18 c19 c20 c21 dS c23;obtain ⟨c0,c1,c2,c3,c4,c5,c6,c7,c8,c9,c10,c11,c12,c13,c14,c15,c16,c17,c18,c19,c20,c21,dS,c23⟩:=(HB2.out.kept K7.out (fun h=>h)).cells
        go_wp2_with (at_builtin;go_loud (refine gX (w0:=w2) rfl _ _ rfl (.slice a6 2 Zo) 2 [.int .i64 (aV s.target),.int .i64 (8)] rfl w2.heap.size (Qe.out.alloc _) [bJ s.pat] w7.heap.size rfl (ay _ _) (by simp) (by have:=K7.out.size;simp;omega) (K7.out.alloc _) (Nat.le_refl _) ?_);intro a8 Zp w8 je jf _;have Zq:Hid (aP w8 w2.heap.size 33 1 (.slice a8 3 Zp) 3 [.int .i64 (aV s.target),.int .i64 (8),.int .i64 (bJ s.pat)]):=je;have K8:=ah jf;clear je jf;clear c0 c1 c2 c3 c4 c5 c6 c7 c8 c9 c10 c11 c12 c13 c14 c15 c16 c17 c18 c19 c20 c21 dS c23;obtain ⟨c0,c1,c2,c3,c4,c5,c6,c7,c8,c9,c10,c11,c12,c13,c14,c15,c16,c17,c18,c19,c20,c21,dS,c23⟩:=(HB2.out.kept K8.out (fun h=>h)).cells)
        refine (oV s.value _ S _ (wS.out.oH K8.out SS.out) (SS.out.mono K8.out.size) (by have:=HZ.out.value.t;omega)).mono ?_
        rintro e w9 ⟨rfl,k_⟩
        have K9:=ah (K8.out.trans k_)
        have HW9:=ah (Zq.out.kept k_ (fun _ _ h=>h))
        clear k_
        clear c0 c1 c2 c3 c4 c5 c6 c7 c8 c9 c10 c11 c12 c13 c14 c15 c16 c17 c18 c19 c20 c21 dS c23;obtain ⟨c0,c1,c2,c3,c4,c5,c6,c7,c8,c9,c10,c11,c12,c13,c14,c15,c16,c17,c18,c19,c20,c21,dS,c23⟩:=(HB2.out.kept K9.out (fun h=>h)).cells
        go_wp2_with (at_builtin;go_loud (refine gX (w0:=w2) rfl _ _ rfl (.slice a8 3 Zp) 3 [.int .i64 (aV s.target),.int .i64 (8),.int .i64 (bJ s.pat)] rfl w2.heap.size (HW9.out.alloc _) [aV s.value] w9.heap.size rfl (ay _ _) (by simp) (by have:=K9.out.size;simp;omega) (K9.out.alloc _) (Nat.le_refl _) ?_);intro a10 agm w10 je jf _;have aiO:Hid (aP w10 w2.heap.size 33 1 (.slice a10 4 agm) 4 [.int .i64 (aV s.target),.int .i64 (8),.int .i64 (bJ s.pat),.int .i64 (aV s.value)]):=je;have K10:=ah jf;clear je jf;clear c0 c1 c2 c3 c4 c5 c6 c7 c8 c9 c10 c11 c12 c13 c14 c15 c16 c17 c18 c19 c20 c21 dS c23;obtain ⟨c0,c1,c2,c3,c4,c5,c6,c7,c8,c9,c10,c11,c12,c13,c14,c15,c16,c17,c18,c19,c20,c21,dS,c23⟩:=(HB2.out.kept K10.out (fun h=>h)).cells)
        go_meet
        exact ⟨[aV s.target,8,bJ s.pat,aV s.value],a10,agm,rfl,by simp,aiO.out,EK,K10.out⟩
      have n5:=hkd;clear hkd
      by_cases hkd:s.kind=6
      ·have z1:(s.kind==1)=false:=by rw [hkd];rfl
       have z2:(s.kind==2)=false:=by rw [hkd];rfl
       have z4:(s.kind==4)=false:=by rw [hkd];rfl
       have z3:(s.kind==3)=false:=by rw [hkd];rfl
       have z5:(s.kind==5)=false:=by rw [hkd];rfl
       have z6:(s.kind==6)=true:=by rw [hkd];rfl
       have EK:Hid (iJ s=dK [aJ [s.name],bJ s.pat]):=by unfold Hid;unfold iJ;rw [if_neg (by omega),if_neg (by omega),if_neg (by omega),if_neg (by omega),if_neg (by omega),if_pos hkd]
       clear hkd
       go_upto_region 26 with fail
       obtain ⟨Sp,hSp⟩:∃Sp:Nat→Value→World→Prop,Sp=(fun i v wx=>match i with
        | 0=>v=.slice none 0 0
        | 1=>v=.pointer (some ⟨w.heap.size,17,none⟩)
        | 2=>v=.string s.name
        | 3=>∃g,v=.slice (some ⟨g,0,none⟩) 1 1∧g<wx.heap.size∧wx.heap[g]?=some (.cells #[.string s.name] 9 (0,0))
        | 4=>v=.int .i64 (aJ [s.name])
        | 5=>v=.pointer (some ⟨w.heap.size,12,none⟩)
        | 6=>v=.agg #[.int .i64 s.pat.kind,.string s.pat.text,.int .i64 s.pat.n,.string s.pat.name,.slice a.pa s.pat.kids.length a.pc]
        | 7=>v=.int .i64 (bJ s.pat)
        | 8=>∃g,v=.slice (some ⟨g,0,none⟩) 2 2∧g<wx.heap.size∧wx.heap[g]?=some (.cells #[.int .i64 (aJ [s.name]),.int .i64 (bJ s.pat)] 33 (0,0))
        | 9=>∃a' c',v=.slice a' 2 c'∧aP wx w2.heap.size 33 1 (.slice a' 2 c') 2 [.int .i64 (aJ [s.name]),.int .i64 (bJ s.pat)]
        | _=>∃a' c',v=.slice a' 2 c'∧aP wx w2.heap.size 33 1 (.slice a' 2 c') 2 [.int .i64 (aJ [s.name]),.int .i64 (bJ s.pat)]):=⟨_,rfl⟩
       refine CZ Sp [99,100,101,102,103,104,105,106,107,108,5] (by kernel_rfl) (by kernel_rfl) (by kernel_rfl) (fun i v w w' h hk=>by
         subst hSp
         rcases i with _|_|_|_|_|_|_|_|_|_|_|i
         all_goals (first
          | exact h
          | (obtain ⟨g,h1,h2,h3⟩:=h;exact ⟨g,h1,Nat.lt_of_lt_of_le h2 hk.size,by rw [hk.block g h2 (fun h=>h)];exact h3⟩)
          | (obtain ⟨a,c,h1,h2⟩:=h;exact ⟨a,c,h1,h2.kept hk (fun _ _ h=>h)⟩))) ?_ ?_
       ·intro i o hi l x wy hI hlf haft
        have e1:x.eval (.tmp 1)=.pointer (some ⟨w.heap.size,0,none⟩):=hI.keep 1 _ rfl (by kernel_rfl)
        have hO2:=Tn.out
        have B3:=HB2.out.kept hI.kept (fun h=>h)
        clear c0 c1 c2 c3 c4 c5 c6 c7 c8 c9 c10 c11 c12 c13 c14 c15 c16 c17 c18 c19 c20 c21 dS c23
        obtain ⟨c0,c1,c2,c3,c4,c5,c6,c7,c8,c9,c10,c11,c12,c13,c14,c15,c16,c17,c18,c19,c20,c21,dS,c23⟩:=B3.cells
        rcases i with _|_|_|_|_|_|_|_|_|_|_|i
        all_goals (simp only [List.getElem?_toArray,List.getElem?_cons_zero,List.getElem?_cons_succ,List.getElem?_nil,Option.some.injEq,reduceCtorEq] at hi)
        all_goals subst hi
        ·have e5:x.eval (.tmp 5)=.slice none 0 0:=hI.late hlf 10 5 rfl rfl rfl _ rfl
         refine gZ (v:=.slice none 0 0) ?_ (by subst hSp;exact rfl)
         simp only [execOp,resolve,invoke,List.map_toArray,List.map_cons,List.map_nil,e5];go_simp
        ·refine gZ (v:=.pointer (some ⟨w.heap.size,17,none⟩)) ?_ (by subst hSp;exact rfl)
         simp only [execOp,resolve,invoke,List.map_toArray,List.map_cons,List.map_nil,e1];go_simp
        ·have aiP:x.eval (.tmp 100)=.pointer (some ⟨w.heap.size,17,none⟩):=by have h_:=hI.dep haft 1 100 rfl rfl rfl;rw [hSp] at h_;exact h_
         refine gZ (v:=.string s.name) ?_ (by subst hSp;exact rfl)
         simp only [execOp,resolve,invoke,List.map_toArray,List.map_cons,List.map_nil,aiP];go_simp
        ·have aiQ:x.eval (.tmp 101)=.string s.name:=by have h_:=hI.dep haft 2 101 rfl rfl rfl;rw [hSp] at h_;exact h_
         refine zI (v:=.slice (some ⟨wy.heap.size,0,none⟩) 1 1) (w':=wy.alloc (.cells #[.string s.name] 9)) ?_ ((Kept.refl _ _).alloc _) (by subst hSp;exact ⟨_,rfl,by simp,ay _ _⟩)
         simp only [execOp,resolve,invoke,List.map_toArray,List.map_cons,List.map_nil,aiQ];go_simp
        ·have aiR:∃g,x.eval (.tmp 102)=.slice (some ⟨g,0,none⟩) 1 1∧g<wy.heap.size∧wy.heap[g]?=some (.cells #[.string s.name] 9 (0,0)):=by have h_:=hI.dep haft 3 102 rfl rfl rfl;rw [hSp] at h_;exact h_
         obtain ⟨g,hv,_,hg⟩:=aiR
         refine rM (f:=111) (args:=#[.slice (some ⟨g,0,none⟩) 1 1]) ?_ ?_
         ·simp only [execOp,resolve,invoke,List.map_toArray,List.map_cons,List.map_nil,hv];go_simp
         ·exact (tY [s.name] _ 1 (· = g) _ (xK hg rfl) ⟨by simp,by intro y hy;simp only [List.mem_singleton] at hy;subst hy;exact HZ.out.name⟩).mono fun e w' h=>⟨_,h.1,by subst hSp;exact rfl,by rw [h.2];exact Kept.refl _ _⟩
        ·refine gZ (v:=.pointer (some ⟨w.heap.size,12,none⟩)) ?_ (by subst hSp;exact rfl)
         simp only [execOp,resolve,invoke,List.map_toArray,List.map_cons,List.map_nil,e1];go_simp
        ·have aiS:x.eval (.tmp 104)=.pointer (some ⟨w.heap.size,12,none⟩):=by have h_:=hI.dep haft 5 104 rfl rfl rfl;rw [hSp] at h_;exact h_
         refine gZ (v:=.agg #[.int .i64 s.pat.kind,.string s.pat.text,.int .i64 s.pat.n,.string s.pat.name,.slice a.pa s.pat.kids.length a.pc]) ?_ (by subst hSp;exact rfl)
         simp only [execOp,resolve,invoke,List.map_toArray,List.map_cons,List.map_nil,aiS];go_simp
        ·have aiT:x.eval (.tmp 105)=.agg #[.int .i64 s.pat.kind,.string s.pat.text,.int .i64 s.pat.n,.string s.pat.name,.slice a.pa s.pat.kids.length a.pc]:=by have h_:=hI.dep haft 6 105 rfl rfl rfl;rw [hSp] at h_;exact h_
         refine rM (f:=110) (args:=#[.agg #[.int .i64 s.pat.kind,.string s.pat.text,.int .i64 s.pat.n,.string s.pat.name,.slice a.pa s.pat.kids.length a.pc]]) ?_ ?_
         ·simp only [execOp,resolve,invoke,List.map_toArray,List.map_cons,List.map_nil,aiT];go_simp
         ·exact (yR s.pat _ _ ((MF.out.oH hI.kept SS.out).all (SS.out.mono hI.kept.size)) (by have:=HZ.out.pat.t;omega)).mono fun e w' h=>⟨_,h.1,by subst hSp;exact rfl,h.2⟩
        ·have aiU:x.eval (.tmp 103)=.int .i64 (aJ [s.name]):=by have h_:=hI.dep haft 4 103 rfl rfl rfl;rw [hSp] at h_;exact h_
         have aiV:x.eval (.tmp 106)=.int .i64 (bJ s.pat):=by have h_:=hI.dep haft 7 106 rfl rfl rfl;rw [hSp] at h_;exact h_
         refine zI (v:=.slice (some ⟨wy.heap.size,0,none⟩) 2 2) (w':=wy.alloc (.cells #[.int .i64 (aJ [s.name]),.int .i64 (bJ s.pat)] 33)) ?_ ((Kept.refl _ _).alloc _) (by subst hSp;exact ⟨_,rfl,by simp,ay _ _⟩)
         simp only [execOp,resolve,invoke,List.map_toArray,List.map_cons,List.map_nil,aiU,aiV];go_simp
        ·have d99:x.eval (.tmp 99)=.slice none 0 0:=by have h_:=hI.dep haft 0 99 rfl rfl rfl;rw [hSp] at h_;exact h_
         have aiW:∃g,x.eval (.tmp 107)=.slice (some ⟨g,0,none⟩) 2 2∧g<wy.heap.size∧wy.heap[g]?=some (.cells #[.int .i64 (aJ [s.name]),.int .i64 (bJ s.pat)] 33 (0,0)):=by have h_:=hI.dep haft 8 107 rfl rfl rfl;rw [hSp] at h_;exact h_
         obtain ⟨g,hv,_,hg⟩:=aiW
         exact MO _ _ rfl d99 [aJ [s.name],bJ s.pat] g hv hg (by simp) w2.heap.size hI.kept.size fun a' c' w' hW=>by subst hSp;exact ⟨a',c',rfl,hW⟩
        ·have aiX:∃a' c',x.eval (.tmp 108)=.slice a' 2 c'∧aP wy w2.heap.size 33 1 (.slice a' 2 c') 2 [.int .i64 (aJ [s.name]),.int .i64 (bJ s.pat)]:=by have h_:=hI.dep haft 9 108 rfl rfl rfl;rw [hSp] at h_;exact h_
         obtain ⟨a',c',hv,hW⟩:=aiX
         refine gZ (v:=.slice a' 2 c') ?_ (by subst hSp;exact ⟨_,_,rfl,hW⟩)
         simp only [execOp,resolve,invoke,List.map_toArray,List.map_cons,List.map_nil,hv];go_simp
       ·intro f wy hK hS
        have Lu:=hS 10 _ 5 rfl rfl
        rw [hSp] at Lu
        obtain ⟨a4,qK,e5,LC⟩:=Lu
        have vX:Hid (aP wy w2.heap.size 33 1 (.slice a4 2 qK) 2 [.int .i64 (aJ [s.name]),.int .i64 (bJ s.pat)]):=LC
        have K4:=ah hK
        clear hK hS LC
        clear c0 c1 c2 c3 c4 c5 c6 c7 c8 c9 c10 c11 c12 c13 c14 c15 c16 c17 c18 c19 c20 c21 dS c23;obtain ⟨c0,c1,c2,c3,c4,c5,c6,c7,c8,c9,c10,c11,c12,c13,c14,c15,c16,c17,c18,c19,c20,c21,dS,c23⟩:=(HB2.out.kept K4.out (fun h=>h)).cells
        simp only [gQ,List.foldl_cons,List.foldl_nil,List.setIfInBounds_toArray,List.set_cons_zero,List.set_cons_succ,e5]
        clear e5
        go_wp2_with fail
        go_meet
        exact ⟨[aJ [s.name],bJ s.pat],a4,qK,rfl,by simp,vX.out,EK,K4.out⟩
      have n6:=hkd;clear hkd
      by_cases hkd:s.kind=7
      ·have z1:(s.kind==1)=false:=by rw [hkd];rfl
       have z2:(s.kind==2)=false:=by rw [hkd];rfl
       have z4:(s.kind==4)=false:=by rw [hkd];rfl
       have z3:(s.kind==3)=false:=by rw [hkd];rfl
       have z5:(s.kind==5)=false:=by rw [hkd];rfl
       have z6:(s.kind==6)=false:=by rw [hkd];rfl
       have z7:(s.kind==7)=true:=by rw [hkd];rfl
       have EQ:Hid (iJ s=dK [aJ [s.name],aJ s.params,aJ s.locals,aJ [s.entry],if 8<s.params.length∨8<s.locals.length then 5 else 0]):=by unfold Hid;unfold iJ;rw [if_neg (by omega),if_neg (by omega),if_neg (by omega),if_neg (by omega),if_neg (by omega),if_neg (by omega),if_pos hkd]
       clear hkd
       go_upto_region 28 with fail
       obtain ⟨Sp,hSp⟩:∃Sp:Nat→Value→World→Prop,Sp=(fun i v wx=>match i with
        | 0=>v=.slice none 0 0
        | 1=>v=.pointer (some ⟨w.heap.size,17,none⟩)
        | 2=>v=.string s.name
        | 3=>∃g,v=.slice (some ⟨g,0,none⟩) 1 1∧g<wx.heap.size∧wx.heap[g]?=some (.cells #[.string s.name] 9 (0,0))
        | 4=>v=.int .i64 (aJ [s.name])
        | 5=>v=.pointer (some ⟨w.heap.size,19,none⟩)
        | 6=>v=.slice a.ma s.params.length a.mc
        | 7=>v=.int .i64 (aJ s.params)
        | 8=>v=.pointer (some ⟨w.heap.size,20,none⟩)
        | 9=>v=.slice a.la s.locals.length a.lc
        | 10=>v=.int .i64 (aJ s.locals)
        | 11=>v=.pointer (some ⟨w.heap.size,18,none⟩)
        | 12=>v=.string s.entry
        | 13=>∃g,v=.slice (some ⟨g,0,none⟩) 1 1∧g<wx.heap.size∧wx.heap[g]?=some (.cells #[.string s.entry] 9 (0,0))
        | 14=>v=.int .i64 (aJ [s.entry])
        | 15=>∃g,v=.slice (some ⟨g,0,none⟩) 4 4∧g<wx.heap.size∧wx.heap[g]?=some (.cells #[.int .i64 (aJ [s.name]),.int .i64 (aJ s.params),.int .i64 (aJ s.locals),.int .i64 (aJ [s.entry])] 33 (0,0))
        | 16=>∃a' c',v=.slice a' 4 c'∧aP wx w2.heap.size 33 1 (.slice a' 4 c') 4 [.int .i64 (aJ [s.name]),.int .i64 (aJ s.params),.int .i64 (aJ s.locals),.int .i64 (aJ [s.entry])]
        | _=>∃a' c',v=.slice a' 4 c'∧aP wx w2.heap.size 33 1 (.slice a' 4 c') 4 [.int .i64 (aJ [s.name]),.int .i64 (aJ s.params),.int .i64 (aJ s.locals),.int .i64 (aJ [s.entry])]):=⟨_,rfl⟩
       refine CZ Sp [111,112,113,114,115,116,117,118,119,120,121,122,123,124,125,126,127,5] (by kernel_rfl) (by kernel_rfl) (by kernel_rfl) (fun i v w w' h hk=>by
         subst hSp
         rcases i with _|_|_|_|_|_|_|_|_|_|_|_|_|_|_|_|_|_|i
         all_goals (first
          | exact h
          | (obtain ⟨g,h1,h2,h3⟩:=h;exact ⟨g,h1,Nat.lt_of_lt_of_le h2 hk.size,by rw [hk.block g h2 (fun h=>h)];exact h3⟩)
          | (obtain ⟨a,c,h1,h2⟩:=h;exact ⟨a,c,h1,h2.kept hk (fun _ _ h=>h)⟩))) ?_ ?_
       ·intro i o hi l x wy hI hlf haft
        have e1:x.eval (.tmp 1)=.pointer (some ⟨w.heap.size,0,none⟩):=hI.keep 1 _ rfl (by kernel_rfl)
        have hO2:=Tn.out
        have B3:=HB2.out.kept hI.kept (fun h=>h)
        clear c0 c1 c2 c3 c4 c5 c6 c7 c8 c9 c10 c11 c12 c13 c14 c15 c16 c17 c18 c19 c20 c21 dS c23
        obtain ⟨c0,c1,c2,c3,c4,c5,c6,c7,c8,c9,c10,c11,c12,c13,c14,c15,c16,c17,c18,c19,c20,c21,dS,c23⟩:=B3.cells
        rcases i with _|_|_|_|_|_|_|_|_|_|_|_|_|_|_|_|_|_|i
        all_goals (simp only [List.getElem?_toArray,List.getElem?_cons_zero,List.getElem?_cons_succ,List.getElem?_nil,Option.some.injEq,reduceCtorEq] at hi)
        all_goals subst hi
        ·have e5:x.eval (.tmp 5)=.slice none 0 0:=hI.late hlf 17 5 rfl rfl rfl _ rfl
         refine gZ (v:=.slice none 0 0) ?_ (by subst hSp;exact rfl)
         simp only [execOp,resolve,invoke,List.map_toArray,List.map_cons,List.map_nil,e5];go_simp
        ·refine gZ (v:=.pointer (some ⟨w.heap.size,17,none⟩)) ?_ (by subst hSp;exact rfl)
         simp only [execOp,resolve,invoke,List.map_toArray,List.map_cons,List.map_nil,e1];go_simp
        ·have aiY:x.eval (.tmp 112)=.pointer (some ⟨w.heap.size,17,none⟩):=by have h_:=hI.dep haft 1 112 rfl rfl rfl;rw [hSp] at h_;exact h_
         refine gZ (v:=.string s.name) ?_ (by subst hSp;exact rfl)
         simp only [execOp,resolve,invoke,List.map_toArray,List.map_cons,List.map_nil,aiY];go_simp
        ·have aiZ:x.eval (.tmp 113)=.string s.name:=by have h_:=hI.dep haft 2 113 rfl rfl rfl;rw [hSp] at h_;exact h_
         refine zI (v:=.slice (some ⟨wy.heap.size,0,none⟩) 1 1) (w':=wy.alloc (.cells #[.string s.name] 9)) ?_ ((Kept.refl _ _).alloc _) (by subst hSp;exact ⟨_,rfl,by simp,ay _ _⟩)
         simp only [execOp,resolve,invoke,List.map_toArray,List.map_cons,List.map_nil,aiZ];go_simp
        ·have ai0:∃g,x.eval (.tmp 114)=.slice (some ⟨g,0,none⟩) 1 1∧g<wy.heap.size∧wy.heap[g]?=some (.cells #[.string s.name] 9 (0,0)):=by have h_:=hI.dep haft 3 114 rfl rfl rfl;rw [hSp] at h_;exact h_
         obtain ⟨g,hv,_,hg⟩:=ai0
         refine rM (f:=111) (args:=#[.slice (some ⟨g,0,none⟩) 1 1]) ?_ ?_
         ·simp only [execOp,resolve,invoke,List.map_toArray,List.map_cons,List.map_nil,hv];go_simp
         ·exact (tY [s.name] _ 1 (· = g) _ (xK hg rfl) ⟨by simp,by intro y hy;simp only [List.mem_singleton] at hy;subst hy;exact HZ.out.name⟩).mono fun e w' h=>⟨_,h.1,by subst hSp;exact rfl,by rw [h.2];exact Kept.refl _ _⟩
        ·refine gZ (v:=.pointer (some ⟨w.heap.size,19,none⟩)) ?_ (by subst hSp;exact rfl)
         simp only [execOp,resolve,invoke,List.map_toArray,List.map_cons,List.map_nil,e1];go_simp
        ·have ai1:x.eval (.tmp 116)=.pointer (some ⟨w.heap.size,19,none⟩):=by have h_:=hI.dep haft 5 116 rfl rfl rfl;rw [hSp] at h_;exact h_
         refine gZ (v:=.slice a.ma s.params.length a.mc) ?_ (by subst hSp;exact rfl)
         simp only [execOp,resolve,invoke,List.map_toArray,List.map_cons,List.map_nil,ai1];go_simp
        ·have ai2:x.eval (.tmp 117)=.slice a.ma s.params.length a.mc:=by have h_:=hI.dep haft 6 117 rfl rfl rfl;rw [hSp] at h_;exact h_
         refine rM (f:=111) (args:=#[.slice a.ma s.params.length a.mc]) ?_ ?_
         ·simp only [execOp,resolve,invoke,List.map_toArray,List.map_cons,List.map_nil,ai2];go_simp
         ·exact (tY s.params _ _ S _ (hO2.params.to hI.kept SS.out (fun _ h=>h)) HZ.out.params).mono fun e w' h=>⟨_,h.1,by subst hSp;exact rfl,by rw [h.2];exact Kept.refl _ _⟩
        ·refine gZ (v:=.pointer (some ⟨w.heap.size,20,none⟩)) ?_ (by subst hSp;exact rfl)
         simp only [execOp,resolve,invoke,List.map_toArray,List.map_cons,List.map_nil,e1];go_simp
        ·have aah:x.eval (.tmp 119)=.pointer (some ⟨w.heap.size,20,none⟩):=by have h_:=hI.dep haft 8 119 rfl rfl rfl;rw [hSp] at h_;exact h_
         refine gZ (v:=.slice a.la s.locals.length a.lc) ?_ (by subst hSp;exact rfl)
         simp only [execOp,resolve,invoke,List.map_toArray,List.map_cons,List.map_nil,aah];go_simp
        ·have aap:x.eval (.tmp 120)=.slice a.la s.locals.length a.lc:=by have h_:=hI.dep haft 9 120 rfl rfl rfl;rw [hSp] at h_;exact h_
         refine rM (f:=111) (args:=#[.slice a.la s.locals.length a.lc]) ?_ ?_
         ·simp only [execOp,resolve,invoke,List.map_toArray,List.map_cons,List.map_nil,aap];go_simp
         ·exact (tY s.locals _ _ S _ (hO2.locals.to hI.kept SS.out (fun _ h=>h)) HZ.out.locals).mono fun e w' h=>⟨_,h.1,by subst hSp;exact rfl,by rw [h.2];exact Kept.refl _ _⟩
        ·refine gZ (v:=.pointer (some ⟨w.heap.size,18,none⟩)) ?_ (by subst hSp;exact rfl)
         simp only [execOp,resolve,invoke,List.map_toArray,List.map_cons,List.map_nil,e1];go_simp
        ·have aaj:x.eval (.tmp 122)=.pointer (some ⟨w.heap.size,18,none⟩):=by have h_:=hI.dep haft 11 122 rfl rfl rfl;rw [hSp] at h_;exact h_
         refine gZ (v:=.string s.entry) ?_ (by subst hSp;exact rfl)
         simp only [execOp,resolve,invoke,List.map_toArray,List.map_cons,List.map_nil,aaj];go_simp
        ·have aak:x.eval (.tmp 123)=.string s.entry:=by have h_:=hI.dep haft 12 123 rfl rfl rfl;rw [hSp] at h_;exact h_
         refine zI (v:=.slice (some ⟨wy.heap.size,0,none⟩) 1 1) (w':=wy.alloc (.cells #[.string s.entry] 9)) ?_ ((Kept.refl _ _).alloc _) (by subst hSp;exact ⟨_,rfl,by simp,ay _ _⟩)
         simp only [execOp,resolve,invoke,List.map_toArray,List.map_cons,List.map_nil,aak];go_simp
        ·have aal:∃g,x.eval (.tmp 124)=.slice (some ⟨g,0,none⟩) 1 1∧g<wy.heap.size∧wy.heap[g]?=some (.cells #[.string s.entry] 9 (0,0)):=by have h_:=hI.dep haft 13 124 rfl rfl rfl;rw [hSp] at h_;exact h_
         obtain ⟨g,hv,_,hg⟩:=aal
         refine rM (f:=111) (args:=#[.slice (some ⟨g,0,none⟩) 1 1]) ?_ ?_
         ·simp only [execOp,resolve,invoke,List.map_toArray,List.map_cons,List.map_nil,hv];go_simp
         ·exact (tY [s.entry] _ 1 (· = g) _ (xK hg rfl) ⟨by simp,by intro y hy;simp only [List.mem_singleton] at hy;subst hy;exact HZ.out.entry⟩).mono fun e w' h=>⟨_,h.1,by subst hSp;exact rfl,by rw [h.2];exact Kept.refl _ _⟩
        ·have ai3:x.eval (.tmp 115)=.int .i64 (aJ [s.name]):=by have h_:=hI.dep haft 4 115 rfl rfl rfl;rw [hSp] at h_;exact h_
         have ai4:x.eval (.tmp 118)=.int .i64 (aJ s.params):=by have h_:=hI.dep haft 7 118 rfl rfl rfl;rw [hSp] at h_;exact h_
         have aai:x.eval (.tmp 121)=.int .i64 (aJ s.locals):=by have h_:=hI.dep haft 10 121 rfl rfl rfl;rw [hSp] at h_;exact h_
         have aam:x.eval (.tmp 125)=.int .i64 (aJ [s.entry]):=by have h_:=hI.dep haft 14 125 rfl rfl rfl;rw [hSp] at h_;exact h_
         refine zI (v:=.slice (some ⟨wy.heap.size,0,none⟩) 4 4) (w':=wy.alloc (.cells #[.int .i64 (aJ [s.name]),.int .i64 (aJ s.params),.int .i64 (aJ s.locals),.int .i64 (aJ [s.entry])] 33)) ?_ ((Kept.refl _ _).alloc _) (by subst hSp;exact ⟨_,rfl,by simp,ay _ _⟩)
         simp only [execOp,resolve,invoke,List.map_toArray,List.map_cons,List.map_nil,ai3,ai4,aai,aam];go_simp
        ·have ai5:x.eval (.tmp 111)=.slice none 0 0:=by have h_:=hI.dep haft 0 111 rfl rfl rfl;rw [hSp] at h_;exact h_
         have aan:∃g,x.eval (.tmp 126)=.slice (some ⟨g,0,none⟩) 4 4∧g<wy.heap.size∧wy.heap[g]?=some (.cells #[.int .i64 (aJ [s.name]),.int .i64 (aJ s.params),.int .i64 (aJ s.locals),.int .i64 (aJ [s.entry])] 33 (0,0)):=by have h_:=hI.dep haft 15 126 rfl rfl rfl;rw [hSp] at h_;exact h_
         obtain ⟨g,hv,_,hg⟩:=aan
         exact MO _ _ rfl ai5 [aJ [s.name],aJ s.params,aJ s.locals,aJ [s.entry]] g hv hg (by simp) w2.heap.size hI.kept.size fun a' c' w' hW=>by subst hSp;exact ⟨a',c',rfl,hW⟩
        ·have aao:∃a' c',x.eval (.tmp 127)=.slice a' 4 c'∧aP wy w2.heap.size 33 1 (.slice a' 4 c') 4 [.int .i64 (aJ [s.name]),.int .i64 (aJ s.params),.int .i64 (aJ s.locals),.int .i64 (aJ [s.entry])]:=by have h_:=hI.dep haft 16 127 rfl rfl rfl;rw [hSp] at h_;exact h_
         obtain ⟨a',c',hv,hW⟩:=aao
         refine gZ (v:=.slice a' 4 c') ?_ (by subst hSp;exact ⟨_,_,rfl,hW⟩)
         simp only [execOp,resolve,invoke,List.map_toArray,List.map_cons,List.map_nil,hv];go_simp
       ·intro f wy hK hS
        have Lu:=hS 17 _ 5 rfl rfl
        rw [hSp] at Lu
        obtain ⟨a4,qK,e5,LC⟩:=Lu
        have vX:Hid (aP wy w2.heap.size 33 1 (.slice a4 4 qK) 4 [.int .i64 (aJ [s.name]),.int .i64 (aJ s.params),.int .i64 (aJ s.locals),.int .i64 (aJ [s.entry])]):=LC
        have K4:=ah hK
        clear hK hS LC
        clear c0 c1 c2 c3 c4 c5 c6 c7 c8 c9 c10 c11 c12 c13 c14 c15 c16 c17 c18 c19 c20 c21 dS c23;obtain ⟨c0,c1,c2,c3,c4,c5,c6,c7,c8,c9,c10,c11,c12,c13,c14,c15,c16,c17,c18,c19,c20,c21,dS,c23⟩:=(HB2.out.kept K4.out (fun h=>h)).cells
        simp only [gQ,List.foldl_cons,List.foldl_nil,List.setIfInBounds_toArray,List.set_cons_zero,List.set_cons_succ,e5]
        clear e5
        rcases (show (8<s.params.length∨8<s.locals.length)∨¬(8<s.params.length∨8<s.locals.length) from Classical.em _) with hm|hm
        ·have EK:Hid (iJ s=dK [aJ [s.name],aJ s.params,aJ s.locals,aJ [s.entry],5]):=by unfold Hid;rw [EQ.out,if_pos hm]
         rcases (show 8<s.params.length∨(¬8<s.params.length∧8<s.locals.length) by omega) with hp|⟨hp,hq⟩
         ·have x1:decide ((8:Int)<(s.params.length:Int))=true:=ak (by omega)
          clear hm hp
          go_wp2_with (at_builtin;go_loud (refine gX (w0:=w2) rfl _ _ rfl (.slice a4 4 qK) 4 [.int .i64 (aJ [s.name]),.int .i64 (aJ s.params),.int .i64 (aJ s.locals),.int .i64 (aJ [s.entry])] rfl w2.heap.size (vX.out.alloc _) [5] wy.heap.size rfl (ay _ _) (by simp) (by have:=K4.out.size;simp;omega) (K4.out.alloc _) (Nat.le_refl _) ?_);intro a5 Zr w5 je jf _;have Iy:Hid (aP w5 w2.heap.size 33 1 (.slice a5 5 Zr) 5 [.int .i64 (aJ [s.name]),.int .i64 (aJ s.params),.int .i64 (aJ s.locals),.int .i64 (aJ [s.entry]),.int .i64 (5)]):=je;have K5:=ah jf;clear je jf;clear c0 c1 c2 c3 c4 c5 c6 c7 c8 c9 c10 c11 c12 c13 c14 c15 c16 c17 c18 c19 c20 c21 dS c23;obtain ⟨c0,c1,c2,c3,c4,c5,c6,c7,c8,c9,c10,c11,c12,c13,c14,c15,c16,c17,c18,c19,c20,c21,dS,c23⟩:=(HB2.out.kept K5.out (fun h=>h)).cells)
          go_meet
          exact ⟨[aJ [s.name],aJ s.params,aJ s.locals,aJ [s.entry],5],a5,Zr,rfl,by simp,Iy.out,EK,K5.out⟩
         ·have x1:decide ((8:Int)<(s.params.length:Int))=false:=au (by omega)
          have x2:decide ((8:Int)<(s.locals.length:Int))=true:=ak (by omega)
          clear hm hp hq
          go_wp2_with (at_builtin;go_loud (refine gX (w0:=w2) rfl _ _ rfl (.slice a4 4 qK) 4 [.int .i64 (aJ [s.name]),.int .i64 (aJ s.params),.int .i64 (aJ s.locals),.int .i64 (aJ [s.entry])] rfl w2.heap.size (vX.out.alloc _) [5] wy.heap.size rfl (ay _ _) (by simp) (by have:=K4.out.size;simp;omega) (K4.out.alloc _) (Nat.le_refl _) ?_);intro a5 Zr w5 je jf _;have Iy:Hid (aP w5 w2.heap.size 33 1 (.slice a5 5 Zr) 5 [.int .i64 (aJ [s.name]),.int .i64 (aJ s.params),.int .i64 (aJ s.locals),.int .i64 (aJ [s.entry]),.int .i64 (5)]):=je;have K5:=ah jf;clear je jf;clear c0 c1 c2 c3 c4 c5 c6 c7 c8 c9 c10 c11 c12 c13 c14 c15 c16 c17 c18 c19 c20 c21 dS c23;obtain ⟨c0,c1,c2,c3,c4,c5,c6,c7,c8,c9,c10,c11,c12,c13,c14,c15,c16,c17,c18,c19,c20,c21,dS,c23⟩:=(HB2.out.kept K5.out (fun h=>h)).cells)
          go_meet
          exact ⟨[aJ [s.name],aJ s.params,aJ s.locals,aJ [s.entry],5],a5,Zr,rfl,by simp,Iy.out,EK,K5.out⟩
        ·have EK:Hid (iJ s=dK [aJ [s.name],aJ s.params,aJ s.locals,aJ [s.entry]]):=by unfold Hid;rw [EQ.out,if_neg hm];simp [dK]
         have x1:decide ((8:Int)<(s.params.length:Int))=false:=au (by omega)
         have x2:decide ((8:Int)<(s.locals.length:Int))=false:=au (by omega)
         clear hm
         go_wp2_with fail
         go_meet
         exact ⟨[aJ [s.name],aJ s.params,aJ s.locals,aJ [s.entry]],a4,qK,rfl,by simp,vX.out,EK,K4.out⟩
      have n7:=hkd;clear hkd
      have fin:Hid (iJ s=1):=by unfold Hid iJ;rw [if_neg n1,if_neg n2,if_neg n4,if_neg n3,if_neg n5,if_neg n6,if_neg n7]
      have z1:(s.kind==1)=false:=by simpa using n1
      have z2:(s.kind==2)=false:=by simpa using n2
      have z4:(s.kind==4)=false:=by simpa using n4
      have z3:(s.kind==3)=false:=by simpa using n3
      have z5:(s.kind==5)=false:=by simpa using n5
      have z6:(s.kind==6)=false:=by simpa using n6
      have z7:(s.kind==7)=false:=by simpa using n7
      clear n1 n2 n4 n3 n5 n6 n7
      go_wp2_with fail
      go_ret
      exact ⟨by rw [heq.out,fin.out];try rfl,Bl.out⟩
     case rest =>
      obtain ⟨es,a3,c_3,rfl,hes,hW,EK,hK⟩:=hcut
      have K3:=ah (Bl.out.trans hK)
      have HW:=ah hW
      have hq:=ah (heq.out.trans EK.out)
      clear hW hK HL
      clear c0 c1 c2 c3 c4 c5 c6 c7 c8 c9 c10 c11 c12 c13 c14 c15 c16 c17 c18 c19 c20 c21 dS c23
      go_wp2_with fail
      go_loop [143] (fun i=>∃j:Nat,j≤es.length∧i=.int .i64 j∧Hid (dK es=dK (es.drop j))) (fun i=>es.length-(intOf i).toNat)
      case atStart=>exact ⟨0,Nat.zero_le _,rfl,by unfold Hid;rw [List.drop_zero]⟩
      case round =>
       obtain ⟨j,hj,rfl,hno⟩:=hrel
       by_cases hlt:j<es.length
       ·rcases HW.out.cells with ⟨hv,h0⟩|⟨g,o,cap,hv,_,_,_,_,hc⟩
        ·omega
        ·simp only [Value.slice.injEq,true_and] at hv
         obtain ⟨rfl,rfl⟩:=hv
         obtain ⟨hcj,_⟩:=hc j (.int .i64 es[j]) (by rw [List.getElem?_map,List.getElem?_eq_getElem hlt];rfl)
         have hd:=Qm es j hlt
         clear hc
         by_cases hz:es[j]=0
         ·rw [if_pos hz] at hd
          have step:=ah (hno.out.trans hd)
          have hb:(es[j] != 0)=false:=by simpa using hz
          clear hd hz
          go_wp2_with fail
          go_round
          case rel=>exact ⟨j+1,by omega,by go_num,step⟩
          case measure=>simp [intOf];omega
         ·rw [if_neg hz] at hd
          have fin:=ah (hq.out.trans (hno.out.trans hd))
          have hb:(es[j] != 0)=true:=by simpa using hz
          clear hd hz
          go_wp2_with fail
          go_ret
          exact ⟨by rw [fin.out];try rfl,K3.out⟩
       ·obtain rfl:j=es.length:=by omega
        have fin:=ah (hq.out.trans (hno.out.trans (show dK (es.drop es.length)=0 by rw [List.drop_length,dK])))
        go_wp2_with fail
        go_ret
        exact ⟨by rw [fin.out];try rfl,K3.out⟩
end Go.Proofs.YtodebjhalipefaaGreatDoor
