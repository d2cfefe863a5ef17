/-  -/
import Derived.Test.YtodebjhalipefaaGreatDoorLq8
import Derived.Test.YtodebjhalipefaaGreatDoorLq20
namespace Go.Proofs.YtodebjhalipefaaGreatDoor
set_option linter.all false
open Go.RowKit
set_option maxRecDepth 100000
set_option maxHeartbeats 16000000
def nX (M:Nat) (t:aC) (w:World):Prop:=w.heap[M]?=some (.cells #[.int .i64 t.kind,.string t.text,.int .i64 t.at_] 130 (0,0))
theorem nX.lt {M:Nat} {t:aC} {w:World} (h:nX M t w):M<w.heap.size:=(Array.getElem?_eq_some_iff.1 h).1
theorem nX.kept {M:Nat} {t:aC} {w w':World} {X:Nat→Prop} (h:nX M t w) (hk:Kept X w w') (hx:¬X M):nX M t w':=by
 unfold nX;rw [hk.block M h.lt hx];exact h
theorem nX.cells {M:Nat} {t:aC} {w:World} (h:nX M t w):w.cell? ⟨M,0,none⟩=some (.int .i64 t.kind)∧w.cell? ⟨M,1,none⟩=some (.string t.text)∧w.cell? ⟨M,2,none⟩=some (.int .i64 t.at_)∧∀o,w.frozen? ⟨M,o,none⟩=false:=by
 unfold nX at h
 refine ⟨?_,?_,?_,fun o=>by simp [World.frozen?,h]⟩<;>(rw [cell_of_row w M _ _ _ _ h];rfl)
theorem nX.set {M:Nat} {k:Int} {x:aj} {a:Nat} {w:World} (h:nX M ⟨k,x,a⟩ w) (k2:Int) (x2:aj):nX M ⟨k2,x2,a⟩ ((w.setCell ⟨M,0,none⟩ (.int .i64 k2)).setCell ⟨M,1,none⟩ (.string x2)):=by
 unfold nX at *
 simp [World.setCell,Array.getElem?_modify,h]
theorem adN:(Tryz.prog.info? 130).map (fun i=>(i.zero,i.size,i.bytes))=some (some (.agg #[.int .i64 0,.string ⟨#[]⟩,.int .i64 0]),3,32):=by kernel_rfl
theorem JH {ops:Array Oper} {rest:List Oper} {o:Oper} {a:Act} {Q:Exit→Act→World→Prop} {w:World} (hgd:o.guard=none) (s x:Operand)
  (ho:o.op=.call {callee:=.builtin .append,args:=#[s,x],argTypes:=#[92,92]})
  (v:Value) (n:Nat) (l:List aC) (t:aC) (hnd:n=l.length) (hs:a.eval s=v) (B:Nat) (hown:aP w B 130 3 v n (jK l)) (g:Nat) (hx:a.eval x=.slice (some ⟨g,0,none⟩) 1 1)
  (hg:nX g t w) (hn:l.length≤1000000) (hB:B≤w.heap.size)
  (h:∀a' c' n' w',Hid (n'=(l++[t]).length)→aP w' B 130 3 (.slice a' n' c') n' (jK (l++[t]))→Kept (fun b=>B≤b) w w'→wpList Tryz.prog ops Q rest (a.put o.dst (.slice a' n' c')) w') :
  wpList Tryz.prog ops Q (o::rest) a w:=by
 obtain ⟨i0,hi0,hz0,hz1,hz2⟩:=info_parts adN
 have hsr:Src Tryz.prog 3 92 (.slice (some ⟨g,0,none⟩) 1 1) 1 (Dq t) w :=
  Src.ofSlice _ Tryz.underlying92 _ _ _ _ rfl (World.news_of_block (fr:=(0,0)) (cs:=#[.int .i64 t.kind,.string t.text,.int .i64 t.at_]) hg) (by intro u hu;simp [Dq] at hu;rcases hu with rfl|rfl|rfl<;>rfl)
 refine dw w hgd s x _ _ ho B 130 i0 (.agg #[.int .i64 0,.string ⟨#[]⟩,.int .i64 0]) 3 32 Tryz.underlying92 hi0 hz0 hz1 hz2 rfl v n (jK l) hs hown _ 1 _ hx hsr (by unfold maxLen;omega) (by omega) hB ?_
 intro a' c' w' hW hgr _
 have e:jK l++Dq t=jK (l++[t]):=by rw [QU,abC]
 rw [e] at hW
 exact h a' c' _ w' (by unfold Hid;rw [List.length_append,hnd];rfl) hW ((Kept.refl _ w).grown hgr fun k hk=>.inl (hown.lt k hk).1)
theorem abH (l:List UInt8) (x:UInt8):decide (0≤Lib.indexByte l x)=decide (x∈l):=by
 rw [decide_eq_decide]
 induction l with
 | nil=>simp [Lib.indexByte]
 | cons y r ih =>
  rw [Lib.indexByte]
  by_cases hx:y=x
  ·subst hx;simp
  ·have h1:(y==x)=false:=by simpa using hx
   have h2:=Lib.indexByte_ge r x
   rw [h1]
   simp only [Bool.false_eq_true,if_false,List.mem_cons]
   by_cases h3:Lib.indexByte r x = -1
   ·have h4:(Lib.indexByte r x == -1)=true:=by simpa using h3
    rw [h4]
    simp only [if_true]
    constructor
    ·intro h;omega
    ·rintro (h|h)
     ·exact absurd h.symm hx
     ·have:=ih.2 h;omega
   ·have h4:(Lib.indexByte r x == -1)=false:=by simpa using h3
    rw [h4]
    simp only [Bool.false_eq_true,if_false]
    constructor
    ·intro _;exact .inr (ih.1 (by omega))
    ·intro _;omega
theorem VI (c:UInt8):decide ((0:Int)≤Lib.indexByte (⟨#[61,63,38,43,45,42,47,37,40,41,60,62,44,58,36]⟩:aj).data.toList ((c.toNat:Int)).toNat.toUInt8)=decide (c.toNat∈VH):=by
 have e:((c.toNat:Int)).toNat.toUInt8=c:=by rw [Int.toNat_natCast];exact UInt8.ofNat_toNat
 rw [abH,e,decide_eq_decide]
 have key:∀l:List UInt8,c∈l↔c.toNat∈l.map (·.toNat):=by
  intro l
  rw [List.mem_map]
  exact ⟨fun h=>⟨c,h,rfl⟩,fun ⟨d,hd,e⟩=>by rw [←UInt8.toNat_inj.1 e];exact hd⟩
 rw [key]
 exact Iff.rfl
theorem Qg {s:aj} {k:Nat} (h:k<s.size):Lib.hasPrefix (s.extract k s.size).data.toList (⟨#[58,61]⟩:aj).data.toList=decide (s[k].toNat=58∧peek s (k+1)=61):=by
 rw [extract_drop,drop_cons h,Bool.eq_iff_iff,decide_eq_true_eq]
 show ([58,61]:List UInt8).isPrefixOf (s[k]::s.data.toList.drop (k+1))=true↔_
 have e1:∀(c:UInt8) (n:UInt8),(n==c)=true↔c.toNat=n.toNat:=fun c n=>by rw [beq_iff_eq];exact ⟨fun h=>by rw [h],fun h=>(UInt8.toNat_inj.1 h).symm⟩
 by_cases h2:k+1<s.size
 ·rw [drop_cons h2,rY h2]
  simp only [List.isPrefixOf,Bool.and_true,Bool.and_eq_true,e1]
  constructor
  ·rintro ⟨a,b⟩;exact ⟨a,by rw [b];rfl⟩
  ·rintro ⟨a,b⟩
   have b':s[k+1].toNat=61:=by omega
   exact ⟨a,b'⟩
 ·rw [drop_end (by omega)]
  have hp:peek s (k+1) = -1:=by unfold peek;rw [dif_neg h2]
  rw [hp]
  simp [List.isPrefixOf]
theorem VJ {s:aj} {k:Nat} (h:k<s.size) (h2:s[k].toNat=58∧peek s (k+1)=61):s.extract k (k+2)=⟨#[58,61]⟩:=by
 have hl:k+1<s.size:=JG (by omega)
 have h3:=h2.2
 rw [rY hl] at h3
 have a:s[k]=58:=UInt8.toNat_inj.1 h2.1
 have b:s[k+1]=61:=UInt8.toNat_inj.1 (by show s[k+1].toNat=61;omega)
 apply ByteArray.ext
 apply Array.toList_inj.1
 rw [xG,drop_cons h,drop_cons hl,a,b]
 rfl
def agt (s:aj) (w:World) (e:Ending) (w':World):Prop :=
 Kept aA w w'∧match jO s with
  | .ok l=>∃a c,e=.returned (.tuple #[.slice a l.length c,.agg #[.int .i64 0,.int .i64 0]])∧aP w' w.heap.size 130 3 (.slice a l.length c) l.length (jK l)
  | .error er=>e=.returned (.tuple #[.slice none 0 0,.agg #[.int .i64 er.1,.int .i64 er.2]])
theorem Eh {s:aj} {w:World} {er:Er} {w':World} (h:jO s=.error er) (k:Kept aA w w'):agt s w (.returned (.tuple #[.slice none 0 0,.agg #[.int .i64 er.1,.int .i64 er.2]])) w':=by
 refine ⟨k,?_⟩;rw [h]
theorem Kept.nJ {F:Nat} {w w':World} (h:Kept aA w w') (hF:w.heap.size≤F) (a b:Value):Kept aA w ((w'.setCell ⟨F,0,none⟩ a).setCell ⟨F,1,none⟩ b) :=
 h.step (((Kept.refl (· = F) _).setCell (p:=⟨F,0,none⟩) (.inl rfl) _).setCell (p:=⟨F,1,none⟩) (.inl rfl) _) (fun y hy=>.inr (by subst hy;exact hF))
structure LxI (s:aj) (F B:Nat) (w1:World) (k:Nat) (l:List aC) (v:Value) (n:Nat) (wr:World):Prop where
 num:n=l.length
 len:l.length≤k
 win:aP wr B 130 3 v n (jK l)
 eq:jO s=vS s k l
 keep:Kept (fun b=>B≤b) w1 wr
theorem qG (s:aj) (w:World) (hs:s.size≤1000000000) (hg:oz w):Calls Tryz.prog 38 #[.string s] w (agt s w):=by
 obtain ⟨w1,hw1⟩:∃w1,w1=w.alloc (.cells #[.int .i64 0,.int .i64 0] 39):=⟨_,rfl⟩
 have k1:Kept aA w w1:=by rw [hw1];exact (Kept.refl aA w).alloc _
 have F1:Hid (Fl w.heap.size 0 0 w1):=by rw [hw1];exact ay w _
 have HZ1:Hid (w1.heap.size=w.heap.size+1):=by unfold Hid;rw [hw1];simp
 have G1:=ah (hg.kept k1 (fun h=>h))
 have HW1:=ah hw1;have K1:=ah k1
 clear hw1 k1 hg
 obtain ⟨F,hF⟩:∃F,F=w.heap.size:=⟨_,rfl⟩
 rw [←hF] at F1
 have HF:=ah hF
 clear hF
 by_cases hc:2000<s.size
 ·have fin:Hid (jO s=.error (4,0)):=by unfold Hid jO;rw [if_pos hc]
  have d1:decide ((2000:Int)<(s.size:Int))=true:=ak (by omega)
  have d2:decide (2000<s.size)=true:=ak hc
  clear hc
  go_enter Tryz.func38, Tryz.ntmps38
  go_upto_region 1 with fail
  rw [←HW1.out,←HF.out]
  obtain ⟨f0,f1,f2,f3⟩:=F1.out.cells
  go_wp2_with fail
  exact rZ rfl rfl rfl (F1.out.set _ _) (Eh fin.out (K1.out.nJ (Nat.le_of_eq HF.out.symm) _ _))
 have HP0:Hid (jO s=vS s 0 []):=by unfold Hid jO;rw [if_neg hc]
 have d1:decide ((2000:Int)<(s.size:Int))=false:=au (by omega)
 have d2:decide (2000<s.size)=false:=au hc
 have HC:Hid (s.size≤2000):=Nat.not_lt.1 hc
 obtain ⟨B,hB⟩:∃B,B=w1.heap.size:=⟨_,rfl⟩
 have HFB:Hid (F<B):=by rw [hB];unfold Hid;have:=HZ1.out;have:=HF.out;omega
 have HGB:Hid (0<B):=by rw [hB];obtain ⟨m,hm⟩:=G1.out;exact cells_lt hm
 have HB:=ah hB
 clear hc hB
 go_enter Tryz.func38, Tryz.ntmps38
 go_upto_region 1 with fail
 rw [←HW1.out,←HF.out]
 go_upto_region 5 with fail
 clear HW1 d1 d2
 go_loopw [4,5] (fun v i wr=>∃(k:Nat) (l:List aC) (n:Nat) (aa:Option Addr) (cc:Nat),k≤s.size∧v=.slice aa n cc∧i=.int .i64 k∧Hid (LxI s F B w1 k l (.slice aa n cc) n wr)) (fun _ i _=>s.size-(intOf i).toNat)
 case atStart=>exact ⟨0,[],0,none,0,Nat.zero_le _,rfl,rfl,⟨rfl,Nat.zero_le _,aP.nil ..,HP0.out,Kept.refl _ _⟩⟩
 case round =>
  obtain ⟨k,l,n,aa,cc,hk,rfl,rfl,I0⟩:=hrel
  have KR:Hid (Kept aA w wr):=K1.out.step I0.out.keep (fun y hy=>.inr (by have:B≤y:=hy;have:=HFB.out;have:=HF.out;omega))
  have FR:=ah (F1.out.kept I0.out.keep (by have:=HFB.out;omega))
  have GR:=ah (G1.out.kept I0.out.keep (by have:=HGB.out;omega))
  have HBZ:Hid (B≤wr.heap.size):=by have:=I0.out.keep.size;have:=HB.out;unfold Hid;omega
  by_cases hlt:k<s.size
  ·have c1:decide ((k:Int)<(s.size:Int))=true:=ak (by omega)
   have c1':decide (k<s.size)=true:=ak hlt
   have cb:(k:Int)<(s.size:Int):=by omega
   obtain ⟨w6,hw6⟩:∃w6,w6=wr.alloc (.cells #[.int .i64 0,.string ⟨#[]⟩,.int .i64 k] 130):=⟨_,rfl⟩
   obtain ⟨M,hM⟩:∃M,M=wr.heap.size:=⟨_,rfl⟩
   have T6:Hid (nX M ⟨0,⟨#[]⟩,k⟩ w6):=by rw [hw6,hM];exact ay wr _
   have k6:Kept aA wr w6:=by rw [hw6];exact (Kept.refl aA wr).alloc _
   have W6:=ah (I0.out.win.kept k6 (fun _ _ h=>h));have F6:=ah (FR.out.kept k6 (fun h=>h));have G6:=ah (GR.out.kept k6 (fun h=>h))
   have K6:=ah k6;have KR6:=ah (KR.out.trans k6)
   have HBM:Hid (B≤M):=by rw [hM];exact HBZ.out
   have hstep:=Zu l hlt
   have STEP:=ah (I0.out.eq.trans hstep)
   have EW:=ah hw6;have HM:=ah hM
   have HNX:Hid (∀t k2,cO s k hlt=.tok t k2→k<k2∧k2≤s.size):=fun t k2 h=>⟨(lX h).1,(lX h).2.1⟩
   clear hw6 hM k6 hstep
   go_upto_region 8 with fail
   rw [←EW.out,←HM.out]
   clear EW
   obtain ⟨t0,t1,t2,tf⟩:=T6.out.cells
   have tf0:=tf 0;have tf1:=tf 1
   clear tf
   go_upto_block 2 with fail
   go_cut [5] (fun v wx=>∃(t:aC) (k2:Nat),cO s k hlt=.tok t k2∧v=.int .i64 k2∧Hid (nX M t wx)∧Hid (Kept (· = M) w6 wx))
   case first =>
    by_cases h32:s[k].toNat=32
    ·have b1:((s[k].toNat:Int)==32)=true:=by simp;omega
     have ST:Hid (cO s k hlt=.blank):=by unfold Hid cO;rw [if_pos h32]
     have EQ:Hid (jO s=vS s (k+1) l):=by have h:=STEP.out;rw [ST.out] at h;exact h
     clear h32
     go_wp2_with fail
     go_roundw
     case rel=>exact ⟨k+1,l,n,aa,cc,by omega,rfl,by go_num,⟨I0.out.num,by have:=I0.out.len;omega,W6.out,EQ.out,I0.out.keep.trans (K6.out.more (fun _ h=>h.elim))⟩⟩
     case measure=>simp [intOf];omega
    have b1:((s[k].toNat:Int)==32)=false:=by simp;omega
    by_cases hU:iZ s[k]=true
    ·have tZ:65≤s[k].toNat∧s[k].toNat≤90:=by simpa [iZ] using hU
     have HST:Hid (cO s k hlt=.tok ⟨1,s.extract k (dF qJ s k),k⟩ (dF qJ s k)):=by unfold Hid cO;rw [if_neg h32,if_pos tZ]
     have HKK:Hid (k<dF qJ s k):=(HNX.out _ _ HST.out).1
     clear tZ h32
     go_upto_region 13 with (first
      | (go_at_call 58;(refine (fD _ _).mono ?_);rintro e w' ⟨rfl,aH⟩;obtain rfl:=aH.symm)
      | (go_at_call 59;(refine (fF _ _).mono ?_);rintro e w' ⟨rfl,aH⟩;obtain rfl:=aH.symm))
     go_loop [5] (fun i=>∃m:Nat,k≤m∧m≤s.size∧i=.int .i64 m∧Hid (dF qJ s m=dF qJ s k)) (fun i=>s.size-(intOf i).toNat)
     case atStart=>exact ⟨k,Nat.le_refl _,by omega,rfl,rfl⟩
     case round =>
      obtain ⟨m,hm1,hm2,rfl,hrun⟩:=hrel
      by_cases hml:m<s.size
      ·have e1:decide ((m:Int)<(s.size:Int))=true:=ak (by omega)
       have e1':decide (m<s.size)=true:=ak hml
       have eb:(m:Int)<(s.size:Int):=by omega
       by_cases hu:iZ s[m]=true
       ·have hr2:Hid (dF qJ s (m+1)=dF qJ s k):=(zT hml (by unfold qJ;rw [hu];rfl)).symm.trans hrun.out
        clear hrun
        go_wp2_with (first
         | (go_at_call 58;(refine (fD _ _).mono ?_);rintro e w' ⟨rfl,aH⟩;obtain rfl:=aH.symm)
         | (go_at_call 59;(refine (fF _ _).mono ?_);rintro e w' ⟨rfl,aH⟩;obtain rfl:=aH.symm))
        go_round
        case rel=>exact ⟨m+1,by omega,by omega,by go_num,hr2⟩
        case measure=>simp [intOf];omega
       ·have hu':iZ s[m]=false:=by simpa using hu
        by_cases hd:cu s[m]=true
        ·have hr2:Hid (dF qJ s (m+1)=dF qJ s k):=(zT hml (by unfold qJ;rw [hd,hu'];rfl)).symm.trans hrun.out
         clear hrun hu
         go_wp2_with (first
          | (go_at_call 58;(refine (fD _ _).mono ?_);rintro e w' ⟨rfl,aH⟩;obtain rfl:=aH.symm)
          | (go_at_call 59;(refine (fF _ _).mono ?_);rintro e w' ⟨rfl,aH⟩;obtain rfl:=aH.symm))
         go_round
         case rel=>exact ⟨m+1,by omega,by omega,by go_num,hr2⟩
         case measure=>simp [intOf];omega
        ·have hd':cu s[m]=false:=by simpa using hd
         have em:Hid (dF qJ s k=m):=hrun.out.symm.trans (Zc hml (by unfold qJ;rw [hd',hu'];rfl))
         have hkm:k<m:=by have:=HKK.out;rw [em.out] at this;exact this
         clear hrun hu hd
         go_wp2_with (first
          | (go_at_call 58;(refine (fD _ _).mono ?_);rintro e w' ⟨rfl,aH⟩;obtain rfl:=aH.symm)
          | (go_at_call 59;(refine (fF _ _).mono ?_);rintro e w' ⟨rfl,aH⟩;obtain rfl:=aH.symm))
         go_region
         all_goals go_wp2_with fail
         go_meet
         exact ⟨⟨1,s.extract k m,k⟩,m,by rw [HST.out,em.out],rfl,(T6.out.kept (Kept.refl aA _).drew (fun h=>h)).set 1 _,(((Kept.refl (· = M) w6).drew).setCell (p:=⟨M,0,none⟩) (.inl rfl) _).setCell (p:=⟨M,1,none⟩) (.inl rfl) _⟩
      ·have e1:decide ((m:Int)<(s.size:Int))=false:=au (by omega)
       have e1':decide (m<s.size)=false:=au hml
       have em:Hid (dF qJ s k=m):=hrun.out.symm.trans (run_end (by omega))
       have hkm:k<m:=by have:=HKK.out;rw [em.out] at this;exact this
       clear hrun
       go_wp2_with (first
        | (go_at_call 58;(refine (fD _ _).mono ?_);rintro e w' ⟨rfl,aH⟩;obtain rfl:=aH.symm)
        | (go_at_call 59;(refine (fF _ _).mono ?_);rintro e w' ⟨rfl,aH⟩;obtain rfl:=aH.symm))
       go_region
       all_goals go_wp2_with fail
       go_meet
       exact ⟨⟨1,s.extract k m,k⟩,m,by rw [HST.out,em.out],rfl,(T6.out.kept (Kept.refl aA _).drew (fun h=>h)).set 1 _,(((Kept.refl (· = M) w6).drew).setCell (p:=⟨M,0,none⟩) (.inl rfl) _).setCell (p:=⟨M,1,none⟩) (.inl rfl) _⟩
    have hU':iZ s[k]=false:=by simpa using hU
    have tZ:¬(65≤s[k].toNat∧s[k].toNat≤90):=by intro h;exact hU (by simpa [iZ] using h)
    by_cases hD:cu s[k]=true
    ·have h09:48≤s[k].toNat∧s[k].toNat≤57:=by simpa [cu] using hD
     have HST:Hid (cO s k hlt=.tok ⟨2,s.extract k (dF cu s k),k⟩ (dF cu s k)):=by unfold Hid cO;rw [if_neg h32,if_neg tZ,if_pos h09]
     have HKK:Hid (k<dF cu s k):=(HNX.out _ _ HST.out).1
     clear tZ h32 h09 hU
     go_upto_region 17 with (first
      | (go_at_call 58;(refine (fD _ _).mono ?_);rintro e w' ⟨rfl,aH⟩;obtain rfl:=aH.symm)
      | (go_at_call 59;(refine (fF _ _).mono ?_);rintro e w' ⟨rfl,aH⟩;obtain rfl:=aH.symm))
     go_loop [5] (fun i=>∃m:Nat,k≤m∧m≤s.size∧i=.int .i64 m∧Hid (dF cu s m=dF cu s k)) (fun i=>s.size-(intOf i).toNat)
     case atStart=>exact ⟨k,Nat.le_refl _,by omega,rfl,rfl⟩
     case round =>
      obtain ⟨m,hm1,hm2,rfl,hrun⟩:=hrel
      by_cases hml:m<s.size
      ·have e1:decide ((m:Int)<(s.size:Int))=true:=ak (by omega)
       have e1':decide (m<s.size)=true:=ak hml
       have eb:(m:Int)<(s.size:Int):=by omega
       by_cases hd:cu s[m]=true
       ·have hr2:Hid (dF cu s (m+1)=dF cu s k):=(zT hml hd).symm.trans hrun.out
        clear hrun
        go_wp2_with (first
         | (go_at_call 58;(refine (fD _ _).mono ?_);rintro e w' ⟨rfl,aH⟩;obtain rfl:=aH.symm)
         | (go_at_call 59;(refine (fF _ _).mono ?_);rintro e w' ⟨rfl,aH⟩;obtain rfl:=aH.symm))
        go_round
        case rel=>exact ⟨m+1,by omega,by omega,by go_num,hr2⟩
        case measure=>simp [intOf];omega
       ·have hd':cu s[m]=false:=by simpa using hd
        have em:Hid (dF cu s k=m):=hrun.out.symm.trans (Zc hml hd')
        have hkm:k<m:=by have:=HKK.out;rw [em.out] at this;exact this
        clear hrun hd
        go_wp2_with (first
         | (go_at_call 58;(refine (fD _ _).mono ?_);rintro e w' ⟨rfl,aH⟩;obtain rfl:=aH.symm)
         | (go_at_call 59;(refine (fF _ _).mono ?_);rintro e w' ⟨rfl,aH⟩;obtain rfl:=aH.symm))
        go_region
        all_goals go_wp2_with fail
        go_meet
        exact ⟨⟨2,s.extract k m,k⟩,m,by rw [HST.out,em.out],rfl,(T6.out.kept (Kept.refl aA _).drew (fun h=>h)).set 2 _,(((Kept.refl (· = M) w6).drew).setCell (p:=⟨M,0,none⟩) (.inl rfl) _).setCell (p:=⟨M,1,none⟩) (.inl rfl) _⟩
      ·have e1:decide ((m:Int)<(s.size:Int))=false:=au (by omega)
       have e1':decide (m<s.size)=false:=au hml
       have em:Hid (dF cu s k=m):=hrun.out.symm.trans (run_end (by omega))
       have hkm:k<m:=by have:=HKK.out;rw [em.out] at this;exact this
       clear hrun
       go_wp2_with (first
        | (go_at_call 58;(refine (fD _ _).mono ?_);rintro e w' ⟨rfl,aH⟩;obtain rfl:=aH.symm)
        | (go_at_call 59;(refine (fF _ _).mono ?_);rintro e w' ⟨rfl,aH⟩;obtain rfl:=aH.symm))
       go_region
       all_goals go_wp2_with fail
       go_meet
       exact ⟨⟨2,s.extract k m,k⟩,m,by rw [HST.out,em.out],rfl,(T6.out.kept (Kept.refl aA _).drew (fun h=>h)).set 2 _,(((Kept.refl (· = M) w6).drew).setCell (p:=⟨M,0,none⟩) (.inl rfl) _).setCell (p:=⟨M,1,none⟩) (.inl rfl) _⟩
    have hD':cu s[k]=false:=by simpa using hD
    have h09:¬(48≤s[k].toNat∧s[k].toNat≤57):=by intro h;exact hD (by simpa [cu] using h)
    clear hU hD
    obtain ⟨f0,f1,f2,f3⟩:=F6.out.cells
    by_cases yS:s[k].toNat=39
    ·have b2:((s[k].toNat:Int)==39)=true:=by simp;omega
     have HQ:=ah (Iz (s.extract k s.size) w6 (by rw [qU];omega))
     have eq1:qL (s.extract k s.size) 1=match dM (s.data.toList.drop (k+1)) with|none=>0|some x=>x.2+1:=by
      unfold qL
      rw [DW]
      unfold kK
      cases dM (s.data.toList.drop (k+1)) with
      | none=>rfl
      | some x=>show 1+x.2=x.2+1;omega
     cases ht:dM (s.data.toList.drop (k+1)) with
     | none =>
      rw [ht] at eq1
      rw [eq1] at HQ
      have fin:Hid (jO s=.error (2,s.size)):=by
       have h:=STEP.out
       have e:cO s k hlt=.bad (2,s.size):=by unfold cO;rw [if_neg h32,if_neg tZ,if_neg h09,if_pos yS,ht]
       rw [e] at h;exact h
      clear h32 tZ h09 yS ht eq1
      go_wp2_with (first
       | (go_at_call 58;(refine (fD _ _).mono ?_);rintro e w' ⟨rfl,aH⟩;obtain rfl:=aH.symm)
       | (go_at_call 59;(refine (fF _ _).mono ?_);rintro e w' ⟨rfl,aH⟩;obtain rfl:=aH.symm)
       | (go_at_call 60;(refine HQ.out.mono ?_);rintro e w' ⟨rfl,aH⟩;obtain rfl:=aH.symm))
      exact rZ rfl rfl rfl (F6.out.set _ _) (Eh fin.out (KR6.out.nJ (Nat.le_of_eq HF.out.symm) _ _))
     | some x =>
      obtain ⟨b,n'⟩:=x
      rw [ht] at eq1
      have hle:=uO _ _ _ ht
      rw [List.length_drop] at hle
      have e0:s.data.toList.length=s.size:=rfl
      rw [e0] at hle
      have HST:Hid (cO s k hlt=.tok ⟨3,⟨b.toArray⟩,k⟩ (k+1+n')):=by unfold Hid cO;rw [if_neg h32,if_neg tZ,if_neg h09,if_pos yS,ht]
      obtain ⟨n1,IE⟩:∃n1:Nat,n1=n'+1:=⟨_,rfl⟩
      obtain ⟨k2,Zv⟩:∃k2:Nat,k2=k+1+n':=⟨_,rfl⟩
      obtain ⟨kp,Zw⟩:∃kp:Nat,kp=k+1:=⟨_,rfl⟩
      obtain ⟨kn,ekn⟩:∃kn:Nat,kn=k+n':=⟨_,rfl⟩
      rw [←Zv] at HST
      have En:Hid (Lib.replaceAll (s.extract kp kn).data.toList [39,39] [39]=b):=by
       have h:=abI ht
       have e:k+1+(n'-1)=kn:=by omega
       rw [e,←Zw] at h;exact h
      have HQ':Hid (Calls Tryz.prog 60 #[.string (s.extract k s.size)] w6 (vP n1 w6)):=by have h:=HQ.out;rw [eq1] at h;dsimp only at h;rw [←IE] at h;exact h
      have HU:=ah (adO (s.extract kp kn) w6 G6.out (by rw [ByteArray.size_extract];omega))
      have hw1:(k:Int)+(n1:Int)=(k2:Int):=by omega
      have hw2:(k2:Int)-1=(kn:Int):=by omega
      have hw3:(k:Int)+1=(kp:Int):=by omega
      have hb1:n1≤1000000001:=by omega
      have hb2:k2≤1000000000:=by omega
      have hb3:1≤k2:=by omega
      have zn:((n1:Int)==0)=false:=by simp;omega
      have q1:kp≤kn:=by omega
      have q2:kn≤s.size:=by omega
      clear h32 tZ h09 yS ht eq1 HQ hle e0 IE Zv Zw ekn
      go_wp2_with (first
       | (go_at_call 58;(refine (fD _ _).mono ?_);rintro e w' ⟨rfl,aH⟩;obtain rfl:=aH.symm)
       | (go_at_call 59;(refine (fF _ _).mono ?_);rintro e w' ⟨rfl,aH⟩;obtain rfl:=aH.symm)
       | (go_at_call 60;(refine HQ'.out.mono ?_);rintro e w' ⟨rfl,aH⟩;obtain rfl:=aH.symm)
       | (go_at_call 61;(refine HU.out.mono ?_);rintro e w8 ⟨rfl,oO⟩;rw [En.out];have K8:=ah oO;have T8:=ah (T6.out.kept oO (fun h=>h));obtain ⟨u0,u1,u2,uf⟩:=T8.out.cells;have uf0:=uf 0;have uf1:=uf 1;clear oO uf))
      go_meet
      exact ⟨⟨3,⟨b.toArray⟩,k⟩,k2,HST.out,rfl,T8.out.set 3 _,((show Kept (· = M) w6 w8 from K8.out.more (fun _ h=>h.elim)).setCell (p:=⟨M,0,none⟩) (.inl rfl) _).setCell (p:=⟨M,1,none⟩) (.inl rfl) _⟩
    have b2:((s[k].toNat:Int)==39)=false:=by simp;omega
    by_cases EX:s[k].toNat=91
    ·have b3:((s[k].toNat:Int)==91)=true:=by simp;omega
     have HQ:=ah (LP (s.extract k s.size) w6 (by rw [qU];omega))
     have eq1:bL (s.extract k s.size) 1=match qM s (k+1) with|none=>0|some x=>x+1:=by
      unfold bL
      rw [Zt s k _ 1 (Nat.le_refl _)]
      cases qM s (k+1) with
      | none=>rfl
      | some x=>show 1+x=x+1;omega
     cases ht:qM s (k+1) with
     | none =>
      rw [ht] at eq1
      rw [eq1] at HQ
      have fin:Hid (jO s=.error (2,s.size)):=by
       have h:=STEP.out
       have e:cO s k hlt=.bad (2,s.size):=by unfold cO;rw [if_neg h32,if_neg tZ,if_neg h09,if_neg yS,if_pos EX,ht]
       rw [e] at h;exact h
      clear h32 tZ h09 yS EX ht eq1
      go_wp2_with (first
       | (go_at_call 58;(refine (fD _ _).mono ?_);rintro e w' ⟨rfl,aH⟩;obtain rfl:=aH.symm)
       | (go_at_call 59;(refine (fF _ _).mono ?_);rintro e w' ⟨rfl,aH⟩;obtain rfl:=aH.symm)
       | (go_at_call 62;(refine HQ.out.mono ?_);rintro e w' ⟨rfl,aH⟩;obtain rfl:=aH.symm))
      exact rZ rfl rfl rfl (F6.out.set _ _) (Eh fin.out (KR6.out.nJ (Nat.le_of_eq HF.out.symm) _ _))
     | some n' =>
      rw [ht] at eq1
      have hle:=VF _ _ _ (Nat.le_refl _) ht
      have HST:Hid (cO s k hlt=.tok ⟨4,s.extract (k+1) (k+n'),k⟩ (k+1+n')):=by unfold Hid cO;rw [if_neg h32,if_neg tZ,if_neg h09,if_neg yS,if_pos EX,ht]
      obtain ⟨n1,IE⟩:∃n1:Nat,n1=n'+1:=⟨_,rfl⟩
      obtain ⟨k2,Zv⟩:∃k2:Nat,k2=k+1+n':=⟨_,rfl⟩
      obtain ⟨kp,Zw⟩:∃kp:Nat,kp=k+1:=⟨_,rfl⟩
      obtain ⟨kn,ekn⟩:∃kn:Nat,kn=k+n':=⟨_,rfl⟩
      rw [←Zv,←Zw,←ekn] at HST
      have HQ':Hid (Calls Tryz.prog 62 #[.string (s.extract k s.size)] w6 (vP n1 w6)):=by have h:=HQ.out;rw [eq1] at h;dsimp only at h;rw [←IE] at h;exact h
      have hw1:(k:Int)+(n1:Int)=(k2:Int):=by omega
      have hw2:(k2:Int)-1=(kn:Int):=by omega
      have hw3:(k:Int)+1=(kp:Int):=by omega
      have hb1:n1≤1000000001:=by omega
      have hb2:k2≤1000000000:=by omega
      have hb3:1≤k2:=by omega
      have zn:((n1:Int)==0)=false:=by simp;omega
      have q1:kp≤kn:=by omega
      have q2:kn≤s.size:=by omega
      clear h32 tZ h09 yS EX ht eq1 HQ hle IE Zv Zw ekn
      go_wp2_with (first
       | (go_at_call 58;(refine (fD _ _).mono ?_);rintro e w' ⟨rfl,aH⟩;obtain rfl:=aH.symm)
       | (go_at_call 59;(refine (fF _ _).mono ?_);rintro e w' ⟨rfl,aH⟩;obtain rfl:=aH.symm)
       | (go_at_call 62;(refine HQ'.out.mono ?_);rintro e w' ⟨rfl,aH⟩;obtain rfl:=aH.symm))
      go_region
      all_goals go_wp2_with fail
      go_meet
      exact ⟨⟨4,s.extract kp kn,k⟩,k2,by rw [HST.out],rfl,(T6.out.kept (Kept.refl aA _).drew (fun h=>h)).set 4 _,(((Kept.refl (· = M) w6).drew).setCell (p:=⟨M,0,none⟩) (.inl rfl) _).setCell (p:=⟨M,1,none⟩) (.inl rfl) _⟩
    have b3:((s[k].toNat:Int)==91)=false:=by simp;omega
    have HPX:=ah (Tryz.strings_HasPrefix (s.extract k s.size) ⟨#[58,61]⟩ w6)
    have hpx:=Qg hlt
    by_cases IG:s[k].toNat=58∧peek s (k+1)=61
    ·have HST:Hid (cO s k hlt=.tok ⟨5,⟨#[58,61]⟩,k⟩ (k+2)):=by unfold Hid cO;rw [if_neg h32,if_neg tZ,if_neg h09,if_neg yS,if_neg EX,if_pos IG,VJ hlt IG]
     have HP:Hid (Lib.hasPrefix (s.extract k s.size).data.toList (⟨#[58,61]⟩:aj).data.toList=true):=by unfold Hid;rw [hpx];simpa using IG
     clear h32 tZ h09 yS EX IG hpx
     go_wp2_with (first
      | (go_at_call 58;(refine (fD _ _).mono ?_);rintro e w' ⟨rfl,aH⟩;obtain rfl:=aH.symm)
      | (go_at_call 59;(refine (fF _ _).mono ?_);rintro e w' ⟨rfl,aH⟩;obtain rfl:=aH.symm)
      | (go_at_call 63;(refine HPX.out.mono ?_);rintro e w' ⟨rfl,aH⟩;obtain rfl:=aH.symm;rw [HP.out]))
     go_meet
     exact ⟨⟨5,⟨#[58,61]⟩,k⟩,k+2,HST.out,by go_num,T6.out.set 5 _,((Kept.refl (· = M) w6).setCell (p:=⟨M,0,none⟩) (.inl rfl) _).setCell (p:=⟨M,1,none⟩) (.inl rfl) _⟩
    have HP:Hid (Lib.hasPrefix (s.extract k s.size).data.toList (⟨#[58,61]⟩:aj).data.toList=false):=by unfold Hid;rw [hpx];simpa using IG
    have HIX:=ah (Tryz.strings_IndexByte ⟨#[61,63,38,43,45,42,47,37,40,41,60,62,44,58,36]⟩ (s[k].toNat:Int) w6)
    have hix:=VI s[k]
    obtain ⟨r,hr⟩:∃r:Int,r=Lib.indexByte (⟨#[61,63,38,43,45,42,47,37,40,41,60,62,44,58,36]⟩:aj).data.toList ((s[k].toNat:Int)).toNat.toUInt8:=⟨_,rfl⟩
    rw [←hr] at hix HIX
    clear hpx hr
    by_cases hsg:s[k].toNat∈VH
    ·have HST:Hid (cO s k hlt=.tok ⟨5,s.extract k (k+1),k⟩ (k+1)):=by unfold Hid cO;rw [if_neg h32,if_neg tZ,if_neg h09,if_neg yS,if_neg EX,if_neg IG,if_pos hsg]
     have z:decide ((0:Int)≤r)=true:=by rw [hix];simpa using hsg
     have q1:k≤k+1:=by omega
     have q2:k+1≤s.size:=by omega
     clear h32 tZ h09 yS EX IG hix hsg
     go_wp2_with (first
      | (go_at_call 58;(refine (fD _ _).mono ?_);rintro e w' ⟨rfl,aH⟩;obtain rfl:=aH.symm)
      | (go_at_call 59;(refine (fF _ _).mono ?_);rintro e w' ⟨rfl,aH⟩;obtain rfl:=aH.symm)
      | (go_at_call 63;(refine HPX.out.mono ?_);rintro e w' ⟨rfl,aH⟩;obtain rfl:=aH.symm;rw [HP.out])
      | (go_at_call 64;(refine HIX.out.mono ?_);rintro e w' ⟨rfl,aH⟩;obtain rfl:=aH.symm))
     go_region
     all_goals go_wp2_with fail
     go_meet
     exact ⟨⟨5,s.extract k (k+1),k⟩,k+1,by rw [HST.out],by go_num,(T6.out.kept (Kept.refl aA _).drew (fun h=>h)).set 5 _,(((Kept.refl (· = M) w6).drew).setCell (p:=⟨M,0,none⟩) (.inl rfl) _).setCell (p:=⟨M,1,none⟩) (.inl rfl) _⟩
    ·have fin:Hid (jO s=.error (2,k)):=by
      have h:=STEP.out
      have e:cO s k hlt=.bad (2,k):=by unfold cO;rw [if_neg h32,if_neg tZ,if_neg h09,if_neg yS,if_neg EX,if_neg IG,if_neg hsg]
      rw [e] at h;exact h
     have z:decide ((0:Int)≤r)=false:=by rw [hix];simpa using hsg
     clear h32 tZ h09 yS EX IG hix hsg
     go_wp2_with (first
      | (go_at_call 58;(refine (fD _ _).mono ?_);rintro e w' ⟨rfl,aH⟩;obtain rfl:=aH.symm)
      | (go_at_call 59;(refine (fF _ _).mono ?_);rintro e w' ⟨rfl,aH⟩;obtain rfl:=aH.symm)
      | (go_at_call 63;(refine HPX.out.mono ?_);rintro e w' ⟨rfl,aH⟩;obtain rfl:=aH.symm;rw [HP.out])
      | (go_at_call 64;(refine HIX.out.mono ?_);rintro e w' ⟨rfl,aH⟩;obtain rfl:=aH.symm))
     exact rZ rfl rfl rfl (F6.out.set _ _) (Eh fin.out (KR6.out.nJ (Nat.le_of_eq HF.out.symm) _ _))
   case rest =>
   obtain ⟨t,k2,hst,rfl,T7,K7⟩:=hcut
   obtain ⟨w7,hw7⟩:∃x,x=wc:=⟨_,rfl⟩
   rw [←hw7] at T7 K7⊢
   clear hw7 t0 t1 t2 tf0 tf1
   have KT:Hid (Kept (fun b=>B≤b) wr w7):=(K6.out.more (fun _ h=>h.elim)).trans (K7.out.more (fun y hy=>by subst hy;exact HBM.out))
   have W7:Hid (aP w7 B 130 3 (.slice aa n cc) n (jK l)):=W6.out.kept K7.out (fun b hb h=>by have:=(I0.out.win.lt b hb).2;have:=HM.out;omega)
   have EQ:Hid (jO s=vS s k2 (l++[t])):=by have h:=STEP.out;rw [hst] at h;exact h
   obtain ⟨hk1,hk2⟩:=HNX.out t k2 hst
   obtain ⟨t0,t1,t2,_⟩:=T7.out.cells
   have OU:Hid (B≤w7.heap.size):=by have:=KT.out.size;have:=HBZ.out;unfold Hid;omega
   clear hst
   go_wp2_with (refine JH rfl _ _ rfl _ n l t I0.out.num rfl B (W7.out.alloc _) _ rfl (ay w7 _) (by have:=I0.out.len;have:=HC.out;omega) (by have:=OU.out;simp;omega) ?_;intro a9 c9 n9 w9 Cc yw hk9;have W9:=ah yw;have K9:Hid (Kept (fun b=>B≤b) wr w9):=(KT.out.alloc _).trans hk9;clear yw hk9)
   go_roundw
   case rel=>exact ⟨k2,l++[t],n9,_,_,hk2,rfl,rfl,⟨Cc.out,by have:=I0.out.len;simp;omega,W9.out,EQ.out,I0.out.keep.trans K9.out⟩⟩
   case measure=>simp [intOf];omega
  ·have c1:decide ((k:Int)<(s.size:Int))=false:=au (by omega)
   have c1':decide (k<s.size)=false:=au hlt
   have fin:Hid (jO s=.ok l):=by unfold Hid;rw [I0.out.eq,abB (by omega)]
   obtain ⟨f0,f1,f2,f3⟩:=FR.out.cells
   go_wp2_with fail
   refine rZ rfl rfl rfl (FR.out.set _ _) ⟨KR.out.nJ (Nat.le_of_eq HF.out.symm) _ _,?_⟩
   rw [fin.out]
   have hn:=I0.out.num
   have hW:=I0.out.win
   subst hn
   exact ⟨_,_,rfl,(hW.mono (by have:=HFB.out;have:=HF.out;omega)).kept (((Kept.refl (· = F) _).setCell (p:=⟨F,0,none⟩) (.inl rfl) _).setCell (p:=⟨F,1,none⟩) (.inl rfl) _) (fun b hb h=>by have:=(hW.lt b hb).1;have:=HFB.out;omega)⟩
end Go.Proofs.YtodebjhalipefaaGreatDoor
