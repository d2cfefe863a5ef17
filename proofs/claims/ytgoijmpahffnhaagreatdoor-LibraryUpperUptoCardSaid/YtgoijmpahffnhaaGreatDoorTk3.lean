/-  -/
import Derived.Test.YtgoijmpahffnhaaGreatDoorLq15
import Derived.Test.YtgoijmpahffnhaaGreatDoorLq5
namespace Go.Proofs.YtgoijmpahffnhaaGreatDoor
set_option linter.all false
open Go.RowKit
set_option maxRecDepth 100000
set_option maxHeartbeats 16000000
def oO (M:Nat) (t:aC) (w:World):Prop:=w.heap[M]?=some (.cells #[.int .i64 t.kind,.string t.text,.int .i64 t.at_] 105 (0,0))
theorem oO.lt {M:Nat} {t:aC} {w:World} (h:oO M t w):M<w.heap.size:=(Array.getElem?_eq_some_iff.1 h).1
theorem oO.kept {M:Nat} {t:aC} {w w':World} {X:Nat→Prop} (h:oO M t w) (hk:Kept X w w') (hx:¬X M):oO M t w':=by
 unfold oO;rw [hk.block M h.lt hx];exact h
theorem oO.cells {M:Nat} {t:aC} {w:World} (h:oO M t w):w.cell? ⟨M,0,none⟩=some (.int .i64 t.kind)∧w.cell? ⟨M,1,none⟩=some (.string t.text)∧w.cell? ⟨M,2,none⟩=some (.int .i64 t.at_)∧∀o,w.frozen? ⟨M,o,none⟩=false:=by
 unfold oO at h
 refine ⟨?_,?_,?_,fun o=>by simp [World.frozen?,h]⟩<;>(rw [cell_of_row w M _ _ _ _ h];rfl)
theorem oO.set {M:Nat} {k:Int} {x:aj} {a:Nat} {w:World} (h:oO M ⟨k,x,a⟩ w) (k2:Int) (x2:aj):oO M ⟨k2,x2,a⟩ ((w.setCell ⟨M,0,none⟩ (.int .i64 k2)).setCell ⟨M,1,none⟩ (.string x2)):=by
 unfold oO at *
 simp [World.setCell,Array.getElem?_modify,h]
theorem afo:(Tryz.prog.info? 105).map (fun i=>(i.zero,i.size,i.bytes))=some (some (.agg #[.int .i64 0,.string ⟨#[]⟩,.int .i64 0]),3,32):=by kernel_rfl
theorem KG {ops:Array Oper} {rest:List Oper} {o:Oper} {a:Act} {Q:Exit→Act→World→Prop} {w:World} (hgd:o.guard=none) (s x:Operand)
  (ho:o.op=.call {callee:=.builtin .append,args:=#[s,x],argTypes:=#[76,76]})
  (v:Value) (n:Nat) (l:List aC) (t:aC) (hnd:n=l.length) (hs:a.eval s=v) (B:Nat) (hown:aO w B 105 3 v n (jV l)) (g:Nat) (hx:a.eval x=.slice (some ⟨g,0,none⟩) 1 1)
  (hg:oO g t w) (hn:l.length≤1000000) (hB:B≤w.heap.size)
  (h:∀a' c' n' w',Hid (n'=(l++[t]).length)→aO w' B 105 3 (.slice a' n' c') n' (jV (l++[t]))→Kept (fun b=>B≤b) w w'→wpList Tryz.prog ops Q rest (a.put o.dst (.slice a' n' c')) w') :
  wpList Tryz.prog ops Q (o::rest) a w:=by
 obtain ⟨i0,hi0,hz0,hz1,hz2⟩:=info_parts afo
 have hsr:Src Tryz.prog 3 76 (.slice (some ⟨g,0,none⟩) 1 1) 1 (Eb t) w :=
  Src.ofSlice _ Tryz.underlying76 _ _ _ _ rfl (World.news_of_block (fr:=(0,0)) (cs:=#[.int .i64 t.kind,.string t.text,.int .i64 t.at_]) hg) (by intro u hu;simp [Eb] at hu;rcases hu with rfl|rfl|rfl<;>rfl)
 refine dM w hgd s x _ _ ho B 105 i0 (.agg #[.int .i64 0,.string ⟨#[]⟩,.int .i64 0]) 3 32 Tryz.underlying76 hi0 hz0 hz1 hz2 rfl v n (jV l) hs hown _ 1 _ hx hsr (by unfold maxLen;omega) (by omega) hB ?_
 intro a' c' w' hW hgr _
 have e:jV l++Eb t=jV (l++[t]):=by rw [Tz,adk]
 rw [e] at hW
 exact h a' c' _ w' (by unfold Hid;rw [List.length_append,hnd];rfl) hW ((Kept.refl _ w).grown hgr fun k hk=>.inl (hown.lt k hk).1)
theorem adp (l:List UInt8) (x:UInt8):decide (0≤Lib.indexByte l x)=decide (x∈l):=by
 rw [decide_eq_decide]
 induction l with
 | nil=>simp [Lib.indexByte]
 | cons y r ih =>
  rw [Lib.indexByte]
  by_cases hx:y=x
  ·subst hx;simp
  ·have h1:(y==x)=false:=by simpa using hx
   have h2:=Lib.indexByte_ge r x
   rw [h1]
   simp only [Bool.false_eq_true,if_false,List.mem_cons]
   by_cases h3:Lib.indexByte r x = -1
   ·have h4:(Lib.indexByte r x == -1)=true:=by simpa using h3
    rw [h4]
    simp only [if_true]
    constructor
    ·intro h;omega
    ·rintro (h|h)
     ·exact absurd h.symm hx
     ·have:=ih.2 h;omega
   ·have h4:(Lib.indexByte r x == -1)=false:=by simpa using h3
    rw [h4]
    simp only [Bool.false_eq_true,if_false]
    constructor
    ·intro _;exact .inr (ih.1 (by omega))
    ·intro _;omega
theorem XE (c:UInt8):decide ((0:Int)≤Lib.indexByte (⟨#[61,63,38,43,45,42,47,37,40,41,60,62,44,58,36]⟩:aj).data.toList ((c.toNat:Int)).toNat.toUInt8)=decide (c.toNat∈XD):=by
 have e:((c.toNat:Int)).toNat.toUInt8=c:=by rw [Int.toNat_natCast];exact UInt8.ofNat_toNat
 rw [adp,e,decide_eq_decide]
 have key:∀l:List UInt8,c∈l↔c.toNat∈l.map (·.toNat):=by
  intro l
  rw [List.mem_map]
  exact ⟨fun h=>⟨c,h,rfl⟩,fun ⟨d,hd,e⟩=>by rw [←UInt8.toNat_inj.1 e];exact hd⟩
 rw [key]
 exact Iff.rfl
theorem QH {s:aj} {k:Nat} (h:k<s.size):Lib.hasPrefix (s.extract k s.size).data.toList (⟨#[58,61]⟩:aj).data.toList=decide (s[k].toNat=58∧peek s (k+1)=61):=by
 rw [extract_drop,drop_cons h,Bool.eq_iff_iff,decide_eq_true_eq]
 show ([58,61]:List UInt8).isPrefixOf (s[k]::s.data.toList.drop (k+1))=true↔_
 have e1:∀(c:UInt8) (n:UInt8),(n==c)=true↔c.toNat=n.toNat:=fun c n=>by rw [beq_iff_eq];exact ⟨fun h=>by rw [h],fun h=>(UInt8.toNat_inj.1 h).symm⟩
 by_cases h2:k+1<s.size
 ·rw [drop_cons h2,tN h2]
  simp only [List.isPrefixOf,Bool.and_true,Bool.and_eq_true,e1]
  constructor
  ·rintro ⟨a,b⟩;exact ⟨a,by rw [b];rfl⟩
  ·rintro ⟨a,b⟩
   have b':s[k+1].toNat=61:=by omega
   exact ⟨a,b'⟩
 ·rw [drop_end (by omega)]
  have hp:peek s (k+1) = -1:=by unfold peek;rw [dif_neg h2]
  rw [hp]
  simp [List.isPrefixOf]
theorem XF {s:aj} {k:Nat} (h:k<s.size) (h2:s[k].toNat=58∧peek s (k+1)=61):s.extract k (k+2)=⟨#[58,61]⟩:=by
 have hl:k+1<s.size:=UU (by omega)
 have h3:=h2.2
 rw [tN hl] at h3
 have a:s[k]=58:=UInt8.toNat_inj.1 h2.1
 have b:s[k+1]=61:=UInt8.toNat_inj.1 (by show s[k+1].toNat=61;omega)
 apply ByteArray.ext
 apply Array.toList_inj.1
 rw [yG,drop_cons h,drop_cons hl,a,b]
 rfl
def ahQ (s:aj) (w:World) (e:Ending) (w':World):Prop :=
 Kept aA w w'∧match jY s with
  | .ok l=>∃a c,e=.returned (.tuple #[.slice a l.length c,.agg #[.int .i64 0,.int .i64 0]])∧aO w' w.heap.size 105 3 (.slice a l.length c) l.length (jV l)
  | .error er=>e=.returned (.tuple #[.slice none 0 0,.agg #[.int .i64 er.1,.int .i64 er.2]])
theorem EX {s:aj} {w:World} {er:Er} {w':World} (h:jY s=.error er) (k:Kept aA w w'):ahQ s w (.returned (.tuple #[.slice none 0 0,.agg #[.int .i64 er.1,.int .i64 er.2]])) w':=by
 refine ⟨k,?_⟩;rw [h]
theorem Kept.oI {F:Nat} {w w':World} (h:Kept aA w w') (hF:w.heap.size≤F) (a b:Value):Kept aA w ((w'.setCell ⟨F,0,none⟩ a).setCell ⟨F,1,none⟩ b) :=
 h.step (((Kept.refl (· = F) _).setCell (p:=⟨F,0,none⟩) (.inl rfl) _).setCell (p:=⟨F,1,none⟩) (.inl rfl) _) (fun y hy=>.inr (by subst hy;exact hF))
structure LxI (s:aj) (F B:Nat) (w1:World) (k:Nat) (l:List aC) (v:Value) (n:Nat) (wr:World):Prop where
 num:n=l.length
 len:l.length≤k
 win:aO wr B 105 3 v n (jV l)
 eq:jY s=wX s k l
 keep:Kept (fun b=>B≤b) w1 wr
theorem ru (s:aj) (w:World) (hs:s.size≤1000000000) (hg:jR w):Calls Tryz.prog 32 #[.string s] w (ahQ s w):=by
 obtain ⟨w1,hw1⟩:∃w1,w1=w.alloc (.cells #[.int .i64 0,.int .i64 0] 39):=⟨_,rfl⟩
 have k1:Kept aA w w1:=by rw [hw1];exact (Kept.refl aA w).alloc _
 have F1:Hid (Fl w.heap.size 0 0 w1):=by rw [hw1];exact ay w _
 have HZ1:Hid (w1.heap.size=w.heap.size+1):=by unfold Hid;rw [hw1];simp
 have G1:=ah (hg.kept k1 (fun h=>h))
 have HW1:=ah hw1;have K1:=ah k1
 clear hw1 k1 hg
 obtain ⟨F,hF⟩:∃F,F=w.heap.size:=⟨_,rfl⟩
 rw [←hF] at F1
 have HF:=ah hF
 clear hF
 by_cases hc:2000<s.size
 ·have fin:Hid (jY s=.error (4,0)):=by unfold Hid jY;rw [if_pos hc]
  have d1:decide ((2000:Int)<(s.size:Int))=true:=ak (by omega)
  have d2:decide (2000<s.size)=true:=ak hc
  clear hc
  go_enter Tryz.func32, Tryz.ntmps32
  go_upto_region 1 with fail
  rw [←HW1.out,←HF.out]
  obtain ⟨f0,f1,f2,f3⟩:=F1.out.cells
  go_wp2_with fail
  exact tV rfl rfl rfl (F1.out.set _ _) (EX fin.out (K1.out.oI (Nat.le_of_eq HF.out.symm) _ _))
 have HP0:Hid (jY s=wX s 0 []):=by unfold Hid jY;rw [if_neg hc]
 have d1:decide ((2000:Int)<(s.size:Int))=false:=au (by omega)
 have d2:decide (2000<s.size)=false:=au hc
 have HC:Hid (s.size≤2000):=Nat.not_lt.1 hc
 obtain ⟨B,hB⟩:∃B,B=w1.heap.size:=⟨_,rfl⟩
 have HFB:Hid (F<B):=by rw [hB];unfold Hid;have:=HZ1.out;have:=HF.out;omega
 have HGB:Hid (0<B):=by rw [hB];obtain ⟨m,hm⟩:=G1.out;exact cells_lt hm
 have HB:=ah hB
 clear hc hB
 go_enter Tryz.func32, Tryz.ntmps32
 go_upto_region 1 with fail
 rw [←HW1.out,←HF.out]
 go_upto_region 5 with fail
 clear HW1 d1 d2
 go_loopw [4,5] (fun v i wr=>∃(k:Nat) (l:List aC) (n:Nat) (aa:Option Addr) (cc:Nat),k≤s.size∧v=.slice aa n cc∧i=.int .i64 k∧Hid (LxI s F B w1 k l (.slice aa n cc) n wr)) (fun _ i _=>s.size-(intOf i).toNat)
 case atStart=>exact ⟨0,[],0,none,0,Nat.zero_le _,rfl,rfl,⟨rfl,Nat.zero_le _,aO.nil ..,HP0.out,Kept.refl _ _⟩⟩
 case round =>
  obtain ⟨k,l,n,aa,cc,hk,rfl,rfl,I0⟩:=hrel
  have KR:Hid (Kept aA w wr):=K1.out.step I0.out.keep (fun y hy=>.inr (by have:B≤y:=hy;have:=HFB.out;have:=HF.out;omega))
  have FR:=ah (F1.out.kept I0.out.keep (by have:=HFB.out;omega))
  have GR:=ah (G1.out.kept I0.out.keep (by have:=HGB.out;omega))
  have HBZ:Hid (B≤wr.heap.size):=by have:=I0.out.keep.size;have:=HB.out;unfold Hid;omega
  by_cases hlt:k<s.size
  ·have c1:decide ((k:Int)<(s.size:Int))=true:=ak (by omega)
   have c1':decide (k<s.size)=true:=ak hlt
   have cb:(k:Int)<(s.size:Int):=by omega
   obtain ⟨w6,hw6⟩:∃w6,w6=wr.alloc (.cells #[.int .i64 0,.string ⟨#[]⟩,.int .i64 k] 105):=⟨_,rfl⟩
   obtain ⟨M,hM⟩:∃M,M=wr.heap.size:=⟨_,rfl⟩
   have T6:Hid (oO M ⟨0,⟨#[]⟩,k⟩ w6):=by rw [hw6,hM];exact ay wr _
   have k6:Kept aA wr w6:=by rw [hw6];exact (Kept.refl aA wr).alloc _
   have W6:=ah (I0.out.win.kept k6 (fun _ _ h=>h));have F6:=ah (FR.out.kept k6 (fun h=>h));have G6:=ah (GR.out.kept k6 (fun h=>h))
   have K6:=ah k6;have KR6:=ah (KR.out.trans k6)
   have HBM:Hid (B≤M):=by rw [hM];exact HBZ.out
   have hstep:=aa1 l hlt
   have STEP:=ah (I0.out.eq.trans hstep)
   have FX:=ah hw6;have HM:=ah hM
   have HNX:Hid (∀t k2,cZ s k hlt=.tok t k2→k<k2∧k2≤s.size):=fun t k2 h=>⟨(ng h).1,(ng h).2.1⟩
   clear hw6 hM k6 hstep
   go_upto_region 8 with fail
   rw [←FX.out,←HM.out]
   clear FX
   obtain ⟨t0,t1,t2,tf⟩:=T6.out.cells
   have tf0:=tf 0;have tf1:=tf 1
   clear tf
   go_upto_block 2 with fail
   go_cut [5] (fun v wx=>∃(t:aC) (k2:Nat),cZ s k hlt=.tok t k2∧v=.int .i64 k2∧Hid (oO M t wx)∧Hid (Kept (· = M) w6 wx))
   case first =>
    by_cases h32:s[k].toNat=32
    ·have b1:((s[k].toNat:Int)==32)=true:=by simp;omega
     have ST:Hid (cZ s k hlt=.blank):=by unfold Hid cZ;rw [if_pos h32]
     have EQ:Hid (jY s=wX s (k+1) l):=by have h:=STEP.out;rw [ST.out] at h;exact h
     clear h32
     go_wp2_with fail
     go_roundw
     case rel=>exact ⟨k+1,l,n,aa,cc,by omega,rfl,by go_num,⟨I0.out.num,by have:=I0.out.len;omega,W6.out,EQ.out,I0.out.keep.trans (K6.out.more (fun _ h=>h.elim))⟩⟩
     case measure=>simp [intOf];omega
    have b1:((s[k].toNat:Int)==32)=false:=by simp;omega
    by_cases hU:jc s[k]=true
    ·have uS:65≤s[k].toNat∧s[k].toNat≤90:=by simpa [jc] using hU
     have HST:Hid (cZ s k hlt=.tok ⟨1,s.extract k (dI rE s k),k⟩ (dI rE s k)):=by unfold Hid cZ;rw [if_neg h32,if_pos uS]
     have HKK:Hid (k<dI rE s k):=(HNX.out _ _ HST.out).1
     clear uS h32
     go_upto_region 13 with (first
      | (go_at_call 43;(refine (fE _ _).mono ?_);rintro e w' ⟨rfl,aI⟩;obtain rfl:=aI.symm)
      | (go_at_call 44;(refine (fF _ _).mono ?_);rintro e w' ⟨rfl,aI⟩;obtain rfl:=aI.symm))
     go_loop [5] (fun i=>∃m:Nat,k≤m∧m≤s.size∧i=.int .i64 m∧Hid (dI rE s m=dI rE s k)) (fun i=>s.size-(intOf i).toNat)
     case atStart=>exact ⟨k,Nat.le_refl _,by omega,rfl,rfl⟩
     case round =>
      obtain ⟨m,hm1,hm2,rfl,hrun⟩:=hrel
      by_cases hml:m<s.size
      ·have e1:decide ((m:Int)<(s.size:Int))=true:=ak (by omega)
       have e1':decide (m<s.size)=true:=ak hml
       have eb:(m:Int)<(s.size:Int):=by omega
       by_cases hu:jc s[m]=true
       ·have hr2:Hid (dI rE s (m+1)=dI rE s k):=(AB hml (by unfold rE;rw [hu];rfl)).symm.trans hrun.out
        clear hrun
        go_wp2_with (first
         | (go_at_call 43;(refine (fE _ _).mono ?_);rintro e w' ⟨rfl,aI⟩;obtain rfl:=aI.symm)
         | (go_at_call 44;(refine (fF _ _).mono ?_);rintro e w' ⟨rfl,aI⟩;obtain rfl:=aI.symm))
        go_round
        case rel=>exact ⟨m+1,by omega,by omega,by go_num,hr2⟩
        case measure=>simp [intOf];omega
       ·have hu':jc s[m]=false:=by simpa using hu
        by_cases hd:cO s[m]=true
        ·have hr2:Hid (dI rE s (m+1)=dI rE s k):=(AB hml (by unfold rE;rw [hd,hu'];rfl)).symm.trans hrun.out
         clear hrun hu
         go_wp2_with (first
          | (go_at_call 43;(refine (fE _ _).mono ?_);rintro e w' ⟨rfl,aI⟩;obtain rfl:=aI.symm)
          | (go_at_call 44;(refine (fF _ _).mono ?_);rintro e w' ⟨rfl,aI⟩;obtain rfl:=aI.symm))
         go_round
         case rel=>exact ⟨m+1,by omega,by omega,by go_num,hr2⟩
         case measure=>simp [intOf];omega
        ·have hd':cO s[m]=false:=by simpa using hd
         have em:Hid (dI rE s k=m):=hrun.out.symm.trans (aaM hml (by unfold rE;rw [hd',hu'];rfl))
         have hkm:k<m:=by have:=HKK.out;rw [em.out] at this;exact this
         clear hrun hu hd
         go_wp2_with (first
          | (go_at_call 43;(refine (fE _ _).mono ?_);rintro e w' ⟨rfl,aI⟩;obtain rfl:=aI.symm)
          | (go_at_call 44;(refine (fF _ _).mono ?_);rintro e w' ⟨rfl,aI⟩;obtain rfl:=aI.symm))
         go_region
         all_goals go_wp2_with fail
         go_meet
         exact ⟨⟨1,s.extract k m,k⟩,m,by rw [HST.out,em.out],rfl,(T6.out.kept (Kept.refl aA _).drew (fun h=>h)).set 1 _,(((Kept.refl (· = M) w6).drew).setCell (p:=⟨M,0,none⟩) (.inl rfl) _).setCell (p:=⟨M,1,none⟩) (.inl rfl) _⟩
      ·have e1:decide ((m:Int)<(s.size:Int))=false:=au (by omega)
       have e1':decide (m<s.size)=false:=au hml
       have em:Hid (dI rE s k=m):=hrun.out.symm.trans (run_end (by omega))
       have hkm:k<m:=by have:=HKK.out;rw [em.out] at this;exact this
       clear hrun
       go_wp2_with (first
        | (go_at_call 43;(refine (fE _ _).mono ?_);rintro e w' ⟨rfl,aI⟩;obtain rfl:=aI.symm)
        | (go_at_call 44;(refine (fF _ _).mono ?_);rintro e w' ⟨rfl,aI⟩;obtain rfl:=aI.symm))
       go_region
       all_goals go_wp2_with fail
       go_meet
       exact ⟨⟨1,s.extract k m,k⟩,m,by rw [HST.out,em.out],rfl,(T6.out.kept (Kept.refl aA _).drew (fun h=>h)).set 1 _,(((Kept.refl (· = M) w6).drew).setCell (p:=⟨M,0,none⟩) (.inl rfl) _).setCell (p:=⟨M,1,none⟩) (.inl rfl) _⟩
    have hU':jc s[k]=false:=by simpa using hU
    have uS:¬(65≤s[k].toNat∧s[k].toNat≤90):=by intro h;exact hU (by simpa [jc] using h)
    by_cases hD:cO s[k]=true
    ·have h09:48≤s[k].toNat∧s[k].toNat≤57:=by simpa [cO] using hD
     have HST:Hid (cZ s k hlt=.tok ⟨2,s.extract k (dI cO s k),k⟩ (dI cO s k)):=by unfold Hid cZ;rw [if_neg h32,if_neg uS,if_pos h09]
     have HKK:Hid (k<dI cO s k):=(HNX.out _ _ HST.out).1
     clear uS h32 h09 hU
     go_upto_region 17 with (first
      | (go_at_call 43;(refine (fE _ _).mono ?_);rintro e w' ⟨rfl,aI⟩;obtain rfl:=aI.symm)
      | (go_at_call 44;(refine (fF _ _).mono ?_);rintro e w' ⟨rfl,aI⟩;obtain rfl:=aI.symm))
     go_loop [5] (fun i=>∃m:Nat,k≤m∧m≤s.size∧i=.int .i64 m∧Hid (dI cO s m=dI cO s k)) (fun i=>s.size-(intOf i).toNat)
     case atStart=>exact ⟨k,Nat.le_refl _,by omega,rfl,rfl⟩
     case round =>
      obtain ⟨m,hm1,hm2,rfl,hrun⟩:=hrel
      by_cases hml:m<s.size
      ·have e1:decide ((m:Int)<(s.size:Int))=true:=ak (by omega)
       have e1':decide (m<s.size)=true:=ak hml
       have eb:(m:Int)<(s.size:Int):=by omega
       by_cases hd:cO s[m]=true
       ·have hr2:Hid (dI cO s (m+1)=dI cO s k):=(AB hml hd).symm.trans hrun.out
        clear hrun
        go_wp2_with (first
         | (go_at_call 43;(refine (fE _ _).mono ?_);rintro e w' ⟨rfl,aI⟩;obtain rfl:=aI.symm)
         | (go_at_call 44;(refine (fF _ _).mono ?_);rintro e w' ⟨rfl,aI⟩;obtain rfl:=aI.symm))
        go_round
        case rel=>exact ⟨m+1,by omega,by omega,by go_num,hr2⟩
        case measure=>simp [intOf];omega
       ·have hd':cO s[m]=false:=by simpa using hd
        have em:Hid (dI cO s k=m):=hrun.out.symm.trans (aaM hml hd')
        have hkm:k<m:=by have:=HKK.out;rw [em.out] at this;exact this
        clear hrun hd
        go_wp2_with (first
         | (go_at_call 43;(refine (fE _ _).mono ?_);rintro e w' ⟨rfl,aI⟩;obtain rfl:=aI.symm)
         | (go_at_call 44;(refine (fF _ _).mono ?_);rintro e w' ⟨rfl,aI⟩;obtain rfl:=aI.symm))
        go_region
        all_goals go_wp2_with fail
        go_meet
        exact ⟨⟨2,s.extract k m,k⟩,m,by rw [HST.out,em.out],rfl,(T6.out.kept (Kept.refl aA _).drew (fun h=>h)).set 2 _,(((Kept.refl (· = M) w6).drew).setCell (p:=⟨M,0,none⟩) (.inl rfl) _).setCell (p:=⟨M,1,none⟩) (.inl rfl) _⟩
      ·have e1:decide ((m:Int)<(s.size:Int))=false:=au (by omega)
       have e1':decide (m<s.size)=false:=au hml
       have em:Hid (dI cO s k=m):=hrun.out.symm.trans (run_end (by omega))
       have hkm:k<m:=by have:=HKK.out;rw [em.out] at this;exact this
       clear hrun
       go_wp2_with (first
        | (go_at_call 43;(refine (fE _ _).mono ?_);rintro e w' ⟨rfl,aI⟩;obtain rfl:=aI.symm)
        | (go_at_call 44;(refine (fF _ _).mono ?_);rintro e w' ⟨rfl,aI⟩;obtain rfl:=aI.symm))
       go_region
       all_goals go_wp2_with fail
       go_meet
       exact ⟨⟨2,s.extract k m,k⟩,m,by rw [HST.out,em.out],rfl,(T6.out.kept (Kept.refl aA _).drew (fun h=>h)).set 2 _,(((Kept.refl (· = M) w6).drew).setCell (p:=⟨M,0,none⟩) (.inl rfl) _).setCell (p:=⟨M,1,none⟩) (.inl rfl) _⟩
    have hD':cO s[k]=false:=by simpa using hD
    have h09:¬(48≤s[k].toNat∧s[k].toNat≤57):=by intro h;exact hD (by simpa [cO] using h)
    clear hU hD
    obtain ⟨f0,f1,f2,f3⟩:=F6.out.cells
    by_cases zI:s[k].toNat=39
    ·have b2:((s[k].toNat:Int)==39)=true:=by simp;omega
     have HQ:=ah (Jo (s.extract k s.size) w6 (by rw [rU];omega))
     have eq1:qL (s.extract k s.size) 1=match iL (s.data.toList.drop (k+1)) with|none=>0|some x=>x.2+1:=by
      unfold qL
      rw [EC]
      unfold kZ
      cases iL (s.data.toList.drop (k+1)) with
      | none=>rfl
      | some x=>show 1+x.2=x.2+1;omega
     cases ht:iL (s.data.toList.drop (k+1)) with
     | none =>
      rw [ht] at eq1
      rw [eq1] at HQ
      have fin:Hid (jY s=.error (2,s.size)):=by
       have h:=STEP.out
       have e:cZ s k hlt=.bad (2,s.size):=by unfold cZ;rw [if_neg h32,if_neg uS,if_neg h09,if_pos zI,ht]
       rw [e] at h;exact h
      clear h32 uS h09 zI ht eq1
      go_wp2_with (first
       | (go_at_call 43;(refine (fE _ _).mono ?_);rintro e w' ⟨rfl,aI⟩;obtain rfl:=aI.symm)
       | (go_at_call 44;(refine (fF _ _).mono ?_);rintro e w' ⟨rfl,aI⟩;obtain rfl:=aI.symm)
       | (go_at_call 45;(refine HQ.out.mono ?_);rintro e w' ⟨rfl,aI⟩;obtain rfl:=aI.symm))
      exact tV rfl rfl rfl (F6.out.set _ _) (EX fin.out (KR6.out.oI (Nat.le_of_eq HF.out.symm) _ _))
     | some x =>
      obtain ⟨b,n'⟩:=x
      rw [ht] at eq1
      have hle:=vN _ _ _ ht
      rw [List.length_drop] at hle
      have e0:s.data.toList.length=s.size:=rfl
      rw [e0] at hle
      have HST:Hid (cZ s k hlt=.tok ⟨3,⟨b.toArray⟩,k⟩ (k+1+n')):=by unfold Hid cZ;rw [if_neg h32,if_neg uS,if_neg h09,if_pos zI,ht]
      obtain ⟨n1,Jp⟩:∃n1:Nat,n1=n'+1:=⟨_,rfl⟩
      obtain ⟨k2,ek2⟩:∃k2:Nat,k2=k+1+n':=⟨_,rfl⟩
      obtain ⟨kp,ekp⟩:∃kp:Nat,kp=k+1:=⟨_,rfl⟩
      obtain ⟨kn,ekn⟩:∃kn:Nat,kn=k+n':=⟨_,rfl⟩
      rw [←ek2] at HST
      have TR:Hid (Lib.replaceAll (s.extract kp kn).data.toList [39,39] [39]=b):=by
       have h:=adq ht
       have e:k+1+(n'-1)=kn:=by omega
       rw [e,←ekp] at h;exact h
      have HQ':Hid (Calls Tryz.prog 45 #[.string (s.extract k s.size)] w6 (wW n1 w6)):=by have h:=HQ.out;rw [eq1] at h;dsimp only at h;rw [←Jp] at h;exact h
      have HU:=ah (afp (s.extract kp kn) w6 G6.out (by rw [ByteArray.size_extract];omega))
      have hw1:(k:Int)+(n1:Int)=(k2:Int):=by omega
      have hw2:(k2:Int)-1=(kn:Int):=by omega
      have hw3:(k:Int)+1=(kp:Int):=by omega
      have hb1:n1≤1000000001:=by omega
      have hb2:k2≤1000000000:=by omega
      have hb3:1≤k2:=by omega
      have zn:((n1:Int)==0)=false:=by simp;omega
      have q1:kp≤kn:=by omega
      have q2:kn≤s.size:=by omega
      clear h32 uS h09 zI ht eq1 HQ hle e0 Jp ek2 ekp ekn
      go_wp2_with (first
       | (go_at_call 43;(refine (fE _ _).mono ?_);rintro e w' ⟨rfl,aI⟩;obtain rfl:=aI.symm)
       | (go_at_call 44;(refine (fF _ _).mono ?_);rintro e w' ⟨rfl,aI⟩;obtain rfl:=aI.symm)
       | (go_at_call 45;(refine HQ'.out.mono ?_);rintro e w' ⟨rfl,aI⟩;obtain rfl:=aI.symm)
       | (go_at_call 46;(refine HU.out.mono ?_);rintro e w8 ⟨rfl,pG⟩;rw [TR.out];have K8:=ah pG;have T8:=ah (T6.out.kept pG (fun h=>h));obtain ⟨u0,u1,u2,uf⟩:=T8.out.cells;have uf0:=uf 0;have uf1:=uf 1;clear pG uf))
      go_meet
      exact ⟨⟨3,⟨b.toArray⟩,k⟩,k2,HST.out,rfl,T8.out.set 3 _,((show Kept (· = M) w6 w8 from K8.out.more (fun _ h=>h.elim)).setCell (p:=⟨M,0,none⟩) (.inl rfl) _).setCell (p:=⟨M,1,none⟩) (.inl rfl) _⟩
    have b2:((s[k].toNat:Int)==39)=false:=by simp;omega
    by_cases FY:s[k].toNat=91
    ·have b3:((s[k].toNat:Int)==91)=true:=by simp;omega
     have HQ:=ah (MX (s.extract k s.size) w6 (by rw [rU];omega))
     have eq1:bL (s.extract k s.size) 1=match rG s (k+1) with|none=>0|some x=>x+1:=by
      unfold bL
      rw [aa0 s k _ 1 (Nat.le_refl _)]
      cases rG s (k+1) with
      | none=>rfl
      | some x=>show 1+x=x+1;omega
     cases ht:rG s (k+1) with
     | none =>
      rw [ht] at eq1
      rw [eq1] at HQ
      have fin:Hid (jY s=.error (2,s.size)):=by
       have h:=STEP.out
       have e:cZ s k hlt=.bad (2,s.size):=by unfold cZ;rw [if_neg h32,if_neg uS,if_neg h09,if_neg zI,if_pos FY,ht]
       rw [e] at h;exact h
      clear h32 uS h09 zI FY ht eq1
      go_wp2_with (first
       | (go_at_call 43;(refine (fE _ _).mono ?_);rintro e w' ⟨rfl,aI⟩;obtain rfl:=aI.symm)
       | (go_at_call 44;(refine (fF _ _).mono ?_);rintro e w' ⟨rfl,aI⟩;obtain rfl:=aI.symm)
       | (go_at_call 47;(refine HQ.out.mono ?_);rintro e w' ⟨rfl,aI⟩;obtain rfl:=aI.symm))
      exact tV rfl rfl rfl (F6.out.set _ _) (EX fin.out (KR6.out.oI (Nat.le_of_eq HF.out.symm) _ _))
     | some n' =>
      rw [ht] at eq1
      have hle:=XB _ _ _ (Nat.le_refl _) ht
      have HST:Hid (cZ s k hlt=.tok ⟨4,s.extract (k+1) (k+n'),k⟩ (k+1+n')):=by unfold Hid cZ;rw [if_neg h32,if_neg uS,if_neg h09,if_neg zI,if_pos FY,ht]
      obtain ⟨n1,Jp⟩:∃n1:Nat,n1=n'+1:=⟨_,rfl⟩
      obtain ⟨k2,ek2⟩:∃k2:Nat,k2=k+1+n':=⟨_,rfl⟩
      obtain ⟨kp,ekp⟩:∃kp:Nat,kp=k+1:=⟨_,rfl⟩
      obtain ⟨kn,ekn⟩:∃kn:Nat,kn=k+n':=⟨_,rfl⟩
      rw [←ek2,←ekp,←ekn] at HST
      have HQ':Hid (Calls Tryz.prog 47 #[.string (s.extract k s.size)] w6 (wW n1 w6)):=by have h:=HQ.out;rw [eq1] at h;dsimp only at h;rw [←Jp] at h;exact h
      have hw1:(k:Int)+(n1:Int)=(k2:Int):=by omega
      have hw2:(k2:Int)-1=(kn:Int):=by omega
      have hw3:(k:Int)+1=(kp:Int):=by omega
      have hb1:n1≤1000000001:=by omega
      have hb2:k2≤1000000000:=by omega
      have hb3:1≤k2:=by omega
      have zn:((n1:Int)==0)=false:=by simp;omega
      have q1:kp≤kn:=by omega
      have q2:kn≤s.size:=by omega
      clear h32 uS h09 zI FY ht eq1 HQ hle Jp ek2 ekp ekn
      go_wp2_with (first
       | (go_at_call 43;(refine (fE _ _).mono ?_);rintro e w' ⟨rfl,aI⟩;obtain rfl:=aI.symm)
       | (go_at_call 44;(refine (fF _ _).mono ?_);rintro e w' ⟨rfl,aI⟩;obtain rfl:=aI.symm)
       | (go_at_call 47;(refine HQ'.out.mono ?_);rintro e w' ⟨rfl,aI⟩;obtain rfl:=aI.symm))
      go_region
      all_goals go_wp2_with fail
      go_meet
      exact ⟨⟨4,s.extract kp kn,k⟩,k2,by rw [HST.out],rfl,(T6.out.kept (Kept.refl aA _).drew (fun h=>h)).set 4 _,(((Kept.refl (· = M) w6).drew).setCell (p:=⟨M,0,none⟩) (.inl rfl) _).setCell (p:=⟨M,1,none⟩) (.inl rfl) _⟩
    have b3:((s[k].toNat:Int)==91)=false:=by simp;omega
    have HPX:=ah (Tryz.strings_HasPrefix (s.extract k s.size) ⟨#[58,61]⟩ w6)
    have hpx:=QH hlt
    by_cases Jq:s[k].toNat=58∧peek s (k+1)=61
    ·have HST:Hid (cZ s k hlt=.tok ⟨5,⟨#[58,61]⟩,k⟩ (k+2)):=by unfold Hid cZ;rw [if_neg h32,if_neg uS,if_neg h09,if_neg zI,if_neg FY,if_pos Jq,XF hlt Jq]
     have HP:Hid (Lib.hasPrefix (s.extract k s.size).data.toList (⟨#[58,61]⟩:aj).data.toList=true):=by unfold Hid;rw [hpx];simpa using Jq
     clear h32 uS h09 zI FY Jq hpx
     go_wp2_with (first
      | (go_at_call 43;(refine (fE _ _).mono ?_);rintro e w' ⟨rfl,aI⟩;obtain rfl:=aI.symm)
      | (go_at_call 44;(refine (fF _ _).mono ?_);rintro e w' ⟨rfl,aI⟩;obtain rfl:=aI.symm)
      | (go_at_call 48;(refine HPX.out.mono ?_);rintro e w' ⟨rfl,aI⟩;obtain rfl:=aI.symm;rw [HP.out]))
     go_meet
     exact ⟨⟨5,⟨#[58,61]⟩,k⟩,k+2,HST.out,by go_num,T6.out.set 5 _,((Kept.refl (· = M) w6).setCell (p:=⟨M,0,none⟩) (.inl rfl) _).setCell (p:=⟨M,1,none⟩) (.inl rfl) _⟩
    have HP:Hid (Lib.hasPrefix (s.extract k s.size).data.toList (⟨#[58,61]⟩:aj).data.toList=false):=by unfold Hid;rw [hpx];simpa using Jq
    have HIX:=ah (Tryz.strings_IndexByte ⟨#[61,63,38,43,45,42,47,37,40,41,60,62,44,58,36]⟩ (s[k].toNat:Int) w6)
    have hix:=XE s[k]
    obtain ⟨r,hr⟩:∃r:Int,r=Lib.indexByte (⟨#[61,63,38,43,45,42,47,37,40,41,60,62,44,58,36]⟩:aj).data.toList ((s[k].toNat:Int)).toNat.toUInt8:=⟨_,rfl⟩
    rw [←hr] at hix HIX
    clear hpx hr
    by_cases hsg:s[k].toNat∈XD
    ·have HST:Hid (cZ s k hlt=.tok ⟨5,s.extract k (k+1),k⟩ (k+1)):=by unfold Hid cZ;rw [if_neg h32,if_neg uS,if_neg h09,if_neg zI,if_neg FY,if_neg Jq,if_pos hsg]
     have z:decide ((0:Int)≤r)=true:=by rw [hix];simpa using hsg
     have q1:k≤k+1:=by omega
     have q2:k+1≤s.size:=by omega
     clear h32 uS h09 zI FY Jq hix hsg
     go_wp2_with (first
      | (go_at_call 43;(refine (fE _ _).mono ?_);rintro e w' ⟨rfl,aI⟩;obtain rfl:=aI.symm)
      | (go_at_call 44;(refine (fF _ _).mono ?_);rintro e w' ⟨rfl,aI⟩;obtain rfl:=aI.symm)
      | (go_at_call 48;(refine HPX.out.mono ?_);rintro e w' ⟨rfl,aI⟩;obtain rfl:=aI.symm;rw [HP.out])
      | (go_at_call 49;(refine HIX.out.mono ?_);rintro e w' ⟨rfl,aI⟩;obtain rfl:=aI.symm))
     go_region
     all_goals go_wp2_with fail
     go_meet
     exact ⟨⟨5,s.extract k (k+1),k⟩,k+1,by rw [HST.out],by go_num,(T6.out.kept (Kept.refl aA _).drew (fun h=>h)).set 5 _,(((Kept.refl (· = M) w6).drew).setCell (p:=⟨M,0,none⟩) (.inl rfl) _).setCell (p:=⟨M,1,none⟩) (.inl rfl) _⟩
    ·have fin:Hid (jY s=.error (2,k)):=by
      have h:=STEP.out
      have e:cZ s k hlt=.bad (2,k):=by unfold cZ;rw [if_neg h32,if_neg uS,if_neg h09,if_neg zI,if_neg FY,if_neg Jq,if_neg hsg]
      rw [e] at h;exact h
     have z:decide ((0:Int)≤r)=false:=by rw [hix];simpa using hsg
     clear h32 uS h09 zI FY Jq hix hsg
     go_wp2_with (first
      | (go_at_call 43;(refine (fE _ _).mono ?_);rintro e w' ⟨rfl,aI⟩;obtain rfl:=aI.symm)
      | (go_at_call 44;(refine (fF _ _).mono ?_);rintro e w' ⟨rfl,aI⟩;obtain rfl:=aI.symm)
      | (go_at_call 48;(refine HPX.out.mono ?_);rintro e w' ⟨rfl,aI⟩;obtain rfl:=aI.symm;rw [HP.out])
      | (go_at_call 49;(refine HIX.out.mono ?_);rintro e w' ⟨rfl,aI⟩;obtain rfl:=aI.symm))
     exact tV rfl rfl rfl (F6.out.set _ _) (EX fin.out (KR6.out.oI (Nat.le_of_eq HF.out.symm) _ _))
   case rest =>
   obtain ⟨t,k2,hst,rfl,T7,K7⟩:=hcut
   obtain ⟨w7,hw7⟩:∃x,x=wc:=⟨_,rfl⟩
   rw [←hw7] at T7 K7⊢
   clear hw7 t0 t1 t2 tf0 tf1
   have KT:Hid (Kept (fun b=>B≤b) wr w7):=(K6.out.more (fun _ h=>h.elim)).trans (K7.out.more (fun y hy=>by subst hy;exact HBM.out))
   have W7:Hid (aO w7 B 105 3 (.slice aa n cc) n (jV l)):=W6.out.kept K7.out (fun b hb h=>by have:=(I0.out.win.lt b hb).2;have:=HM.out;omega)
   have EQ:Hid (jY s=wX s k2 (l++[t])):=by have h:=STEP.out;rw [hst] at h;exact h
   obtain ⟨hk1,hk2⟩:=HNX.out t k2 hst
   obtain ⟨t0,t1,t2,_⟩:=T7.out.cells
   have PU:Hid (B≤w7.heap.size):=by have:=KT.out.size;have:=HBZ.out;unfold Hid;omega
   clear hst
   go_wp2_with (refine KG rfl _ _ rfl _ n l t I0.out.num rfl B (W7.out.alloc _) _ rfl (ay w7 _) (by have:=I0.out.len;have:=HC.out;omega) (by have:=PU.out;simp;omega) ?_;intro a9 c9 n9 w9 um nC hk9;have W9:=ah nC;have K9:Hid (Kept (fun b=>B≤b) wr w9):=(KT.out.alloc _).trans hk9;clear nC hk9)
   go_roundw
   case rel=>exact ⟨k2,l++[t],n9,_,_,hk2,rfl,rfl,⟨um.out,by have:=I0.out.len;simp;omega,W9.out,EQ.out,I0.out.keep.trans K9.out⟩⟩
   case measure=>simp [intOf];omega
  ·have c1:decide ((k:Int)<(s.size:Int))=false:=au (by omega)
   have c1':decide (k<s.size)=false:=au hlt
   have fin:Hid (jY s=.ok l):=by unfold Hid;rw [I0.out.eq,adi (by omega)]
   obtain ⟨f0,f1,f2,f3⟩:=FR.out.cells
   go_wp2_with fail
   refine tV rfl rfl rfl (FR.out.set _ _) ⟨KR.out.oI (Nat.le_of_eq HF.out.symm) _ _,?_⟩
   rw [fin.out]
   have hn:=I0.out.num
   have hW:=I0.out.win
   subst hn
   exact ⟨_,_,rfl,(hW.mono (by have:=HFB.out;have:=HF.out;omega)).kept (((Kept.refl (· = F) _).setCell (p:=⟨F,0,none⟩) (.inl rfl) _).setCell (p:=⟨F,1,none⟩) (.inl rfl) _) (fun b hb h=>by have:=(hW.lt b hb).1;have:=HFB.out;omega)⟩
end Go.Proofs.YtgoijmpahffnhaaGreatDoor
