/-  -/
import Derived.Test.YtefjbnhpjdhjmaaGreatDoorTs21
import Derived.Test.YtefjbnhpjdhjmaaGreatDoorTs14
import Derived.Test.YtefjbnhpjdhjmaaGreatDoorPs31
import Derived.Lib.SplitLaws
import Derived.Test.YtefjbnhpjdhjmaaGreatDoorPr3
import Derived.Test.YtefjbnhpjdhjmaaGreatDoorTs12
import Derived.Test.YtefjbnhpjdhjmaaGreatDoorTs19
import Derived.Test.YtefjbnhpjdhjmaaGreatDoorTs15
namespace Go.Proofs.YtefjbnhpjdhjmaaGreatDoor
set_option linter.all false
open Go.RowKit
def Ac:List UInt8→List (List UInt8)
 | []=>[[]]
 | c::r=>if c=10 then []::Ac r else match Ac r with | []=>[[c]]|x::xs=>(c::x)::xs
theorem LW:∀s:List UInt8,Lib.splitK [10] 0 (Lib.count s [10]) s=Ac s
 | []=>by rw [Lib.count_miss (by simp [Lib.index])];rfl
 | c::l=>by
  have ih:=LW l
  rw [Ac]
  by_cases h:c=10
  ·subst h
   have hix:Lib.index (10::l) [10]=0:=by rw [Lib.index];simp [List.isPrefixOf]
   rw [if_pos rfl,Lib.count_cons_eq,Nat.add_comm,Lib.splitK,hix,←ih];rfl
  ·have hp:([10]:List UInt8).isPrefixOf (c::l)=false:=by simp [List.isPrefixOf,Ne.symm h]
   have hix:Lib.index (c::l) [10]=if Lib.index l [10] == -1 then -1 else Lib.index l [10]+1:=by rw [Lib.index,hp];simp
   rw [if_neg h,Lib.count_cons_ne c 10 l h,←ih]
   by_cases hm:Lib.index l [10] = -1
   ·rw [Lib.count_miss hm];rfl
   ·have hge:=Lib.index_ge l [10]
    obtain ⟨j,hj⟩:∃j:Nat,Lib.index l [10]=j:=⟨(Lib.index l [10]).toNat,by omega⟩
    have hc:=Lib.count_hit (s:=l) (sub:=[10]) (by simp) hj
    obtain ⟨k,hk⟩:∃k,Lib.count l [10]=k+1:=⟨Lib.count l [10]-1,by omega⟩
    have e1:(Lib.index l [10] == -1)=false:=by simpa using hm
    rw [hk,Lib.splitK,Lib.splitK,hix,e1]
    simp only [Bool.false_eq_true,if_false]
    rw [if_neg (by simp;omega),hj]
    have e2:((j:Int)+1).toNat=j+1:=by omega
    have e3:(j:Int).toNat=j:=by omega
    rw [e2,e3]
    simp [Nat.add_right_comm]
theorem ES (s:aj):(mM s).map (·.data.toList)=Ac s.data.toList:=by
 unfold mM
 rw [Lib.splitB_data]
 exact LW s.data.toList
theorem map_inj {a b:List aj} (h:a.map (·.data.toList)=b.map (·.data.toList)):a=b:=by
 induction a generalizing b with
 | nil=>exact (List.map_eq_nil_iff.1 h.symm).symm
 | cons x a ih =>
  cases b with
  | nil=>cases h
  | cons y b =>
   obtain ⟨h1,h2⟩:=List.cons.inj h
   rw [ih h2,bytes_eq h1]
theorem Hq:∀(a b:List UInt8),(10:UInt8)∉a→Ac (a++10::b)=a::Ac b
 | [],b,_=>by rw [List.nil_append,Ac,if_pos rfl]
 | c::a,b,h=>by
  rw [List.cons_append,Ac,if_neg (fun e=>h (by simp [e])),Hq a b (fun e=>h (by simp [e]))]
theorem Pg:∀(ls:List (List UInt8)),(∀x∈ls,(10:UInt8)∉x)→Ac (ls.flatMap (· ++ [10]))=ls++[[]]
 | [],_=>rfl
 | x::ls,h=>by
  rw [List.flatMap_cons,List.append_assoc,List.singleton_append,Hq x _ (h x (by simp)),Pg ls fun y hy=>h y (by simp [hy])];rfl
theorem WX {s:aN} (h:(fE s).2=0):(10:UInt8)∉(fE s).1:=by
 unfold fE at h⊢
 by_cases hw:lC s≠0
 ·rw [if_pos hw];simp
 rw [if_neg hw] at h⊢
 by_cases hp:eG s∧(fQ s.pat).2≠0
 ·rw [if_pos hp];simp
 rw [if_neg hp] at h⊢
 by_cases h10:(10:UInt8)∈lineS s
 ·rw [if_pos h10];simp
 rw [if_neg h10] at h⊢
 by_cases hl:2000<(lineS s).length
 ·rw [if_pos hl];simp
 ·rw [if_neg hl];exact h10
theorem Gi:∀(l:List aN) (i:Nat) (d:List UInt8),(jl l i d).2.1=0→(∀s∈l,(fE s).2=0)∧(jl l i d).1=d++l.flatMap (fun s=>(fE s).1++[10])∧(jl l i d).1.length≤65536
 | [],i,d,h=>by
  rw [jl] at h⊢
  by_cases hd:65536<d.length
  ·rw [if_pos hd] at h;cases h
  ·rw [if_neg hd];exact ⟨by simp,by simp,by dsimp only;omega⟩
 | s::r,i,d,h=>by
  rw [jl] at h⊢
  by_cases hs:(fE s).2≠0
  ·rw [if_pos hs] at h;exact absurd h hs
  ·rw [if_neg hs] at h⊢
   obtain ⟨h1,h2,h3⟩:=Gi r (i+1) _ h
   refine ⟨fun x hx=>?_,by rw [h2,List.flatMap_cons,List.append_assoc],h3⟩
   rcases List.mem_cons.1 hx with rfl|hx
   ·exact Classical.not_not.1 hs
   ·exact h1 x hx
theorem Gj:∀(l:List aN) (i:Nat) (out:List aN),(∀s∈l,(fE s).2=0∧ED s)→iJ i out (l.map fun s=>⟨(fE s).1.toArray⟩)=.ok (out++l.map dV)
 | [],i,out,_=>by rw [List.map_nil,iJ];simp
 | s::r,i,out,h=>by
  obtain ⟨h1,h2⟩:=h s (by simp)
  rw [List.map_cons,iJ,LU h1 h2]
  dsimp only
  rw [Gj r (i+1) _ fun x hx=>h x (by simp [hx]),List.append_assoc];rfl
theorem Wy {l:List aN} (h:(jM l).2.1=0) (hn:∀s∈l,ED s):lG ⟨(jM l).1.toArray⟩=.ok (l.map dV):=by
 unfold jM at h⊢
 by_cases hl:1000<l.length
 ·rw [if_pos hl] at h;cases h
 rw [if_neg hl] at h⊢
 obtain ⟨h1,h2,h3⟩:=Gi l 0 [] h
 have hsz:(⟨(jl l 0 []).1.toArray⟩:aj).size=(jl l 0 []).1.length:=by show (jl l 0 []).1.toArray.size=_;simp
 have ac0:oD (mM ⟨(jl l 0 []).1.toArray⟩)=l.map fun s=>⟨(fE s).1.toArray⟩:=by
  have hx:mM ⟨(jl l 0 []).1.toArray⟩=(l.map fun s=>⟨(fE s).1.toArray⟩)++[E0]:=by
   apply map_inj
   rw [ES,List.map_append,List.map_map]
   show Ac (jl l 0 []).1=_
   rw [h2,List.nil_append]
   have hf:l.flatMap (fun s=>(fE s).1++[10])=(l.map fun s=>(fE s).1).flatMap (· ++ [10]):=by rw [List.flatMap_map]
   rw [hf,Pg _ fun x hx=>by obtain ⟨s,hs,rfl⟩:=List.mem_map.1 hx;exact WX (h1 s hs)]
   rfl
  rw [hx]
  unfold oD
  rw [if_pos (by simp),List.dropLast_concat]
 unfold lG
 rw [if_neg (by omega),ac0,if_neg (by simp;omega),Gj l 0 [] fun s hs=>⟨h1 s hs,hn s hs⟩];rfl
theorem xJ:∀(ls:List aj) (i j:Nat) (out k:List aN),iJ i out ls=.ok k→iJ j out ls=.ok k
 | [],i,j,out,k,h=>by rw [iJ] at h⊢;exact h
 | t::r,i,j,out,k,h=>by
  rw [iJ] at h⊢
  cases ht:kP t with
  | error er =>
   rw [ht] at h
   dsimp only at h⊢
   by_cases he:er.1≠0
   ·rw [if_pos he] at h;cases h
   ·rw [if_neg he] at h⊢;exact xJ r _ _ _ _ h
  | ok o =>
   rw [ht] at h
   cases o with
   | none=>exact xJ r _ _ _ _ h
   | some x=>exact xJ r _ _ _ _ h
theorem Qd {s s1 rem:aj} {k:List aN} (h:lG s=.ok k) (hs:s1.data.toList=42::(rem.data.toList++10::s.data.toList)) (hr:(10:UInt8)∉rem.data.toList) (hl:rem.size≤1000) :
  lG s1=.ok k∨(lG s1=.error (4,0)∧65536<s.size+rem.size+2)∨lG s1=.error (5,0):=by
 have e0:s.data.toList.length=s.size:=rfl
 have e1:s1.data.toList.length=s1.size:=rfl
 have e2:rem.data.toList.length=rem.size:=rfl
 have hsz:s1.size=s.size+rem.size+2:=by
  rw [←e1,hs];simp only [List.length_cons,List.length_append];omega
 have hx:mM s1=(⟨(42::rem.data.toList).toArray⟩:aj)::mM s:=by
  apply map_inj
  rw [ES,List.map_cons,ES,hs]
  exact Hq (42::rem.data.toList) _ (by simpa using hr)
 have hd:oD (mM s1)=(⟨(42::rem.data.toList).toArray⟩:aj)::oD (mM s):=by
  rw [hx]
  have hne:mM s≠[]:=fun e=>by have:=Ld s;rw [e] at this;simp at this
  unfold oD
  rw [List.getLast?_cons_of_ne_nil hne]
  split
  ·exact List.dropLast_cons_of_ne_nil hne
  ·rfl
 unfold lG at h⊢
 by_cases h1:65536<s.size
 ·rw [if_pos h1] at h;cases h
 rw [if_neg h1] at h
 by_cases h2:1000<(oD (mM s)).length
 ·rw [if_pos h2] at h;cases h
 rw [if_neg h2] at h
 by_cases h3:65536<s1.size
 ·rw [if_pos h3];exact .inr (.inl ⟨rfl,by omega⟩)
 rw [if_neg h3,hd]
 by_cases h4:1000<((⟨(42::rem.data.toList).toArray⟩:aj)::oD (mM s)).length
 ·rw [if_pos h4];exact .inr (.inr rfl)
 rw [if_neg h4,iJ]
 have adD:kP ⟨(42::rem.data.toList).toArray⟩=.ok none:=by
  have hb:Has ⟨(42::rem.data.toList).toArray⟩ 0 (42::rem.data.toList) []:=⟨by simp,by omega⟩
  have hz:(⟨(42::rem.data.toList).toArray⟩:aj).size=rem.size+1:=by show (42::rem.data.toList).toArray.size=_;rw [List.size_toArray,List.length_cons,e2]
  unfold kP
  rw [if_pos ⟨by rw [hb.peek];rfl,by omega⟩]
 rw [adD]
 exact .inl (xJ _ 0 1 [] k h)
end Go.Proofs.YtefjbnhpjdhjmaaGreatDoor

namespace Go.Proofs.YtefjbnhpjdhjmaaGreatDoor
set_option linter.all false
open Go.RowKit
set_option maxRecDepth 100000
set_option maxHeartbeats 8000000
structure SwI (F B:Nat) (l:List aN) (w2:World) (j:Nat) (d:List UInt8) (wr:World):Prop where
 eq:jl (l.drop j) j d=jM l
 len:d.length≤2001*j
 jd:ni B B d wr
 keep:Kept (fun b=>B≤b) w2 wr
theorem Wj (l:List aN) (al:Option Addr) (cl:Nat) (w:World) (hl:AZ w (· < w.heap.size) al l) (hlen:l.length≤1048576) (hg:E9 w) :
  Calls Tryz.prog 11 #[.slice al l.length cl] w (Wh l w):=by
 obtain ⟨w1,hw1⟩:∃w1,w1=w.alloc (.cells #[.int .i64 0,.int .i64 0] 36):=⟨_,rfl⟩
 have k1:Kept aC w w1:=by rw [hw1];exact (Kept.refl aC w).alloc _
 have F1:Hid (Fl w.heap.size 0 0 w1):=by rw [hw1];exact ay w _
 have HZ1:Hid (w1.heap.size=w.heap.size+1):=by unfold Hid;rw [hw1];simp
 have HW1:=ah hw1;have K1:=ah k1;have HL:=ah hl;have HG:=ah hg
 clear hw1 k1 hl hg
 obtain ⟨F,hF⟩:∃F,F=w.heap.size:=⟨_,rfl⟩
 rw [←hF] at F1
 have HF:=ah hF
 clear hF
 by_cases hc:1000<l.length
 ·have fin:Hid (jM l=([],5,0)):=by unfold Hid jM;rw [if_pos hc]
  have d1:decide ((1000:Int)<(l.length:Int))=true:=ak (by omega)
  have d2:decide (1000<l.length)=true:=ak hc
  clear hc
  go_enter Tryz.func11, Tryz.ntmps11
  go_upto_region 1 with fail
  rw [←HW1.out,←HF.out]
  obtain ⟨f0,f1,f2,f3⟩:=F1.out.cells
  go_wp2_with fail
  exact BN rfl rfl rfl (F1.out.set _ _) ⟨by rw [fin.out]<;>rfl,K1.out.step (((Kept.refl (· = F) _).setCell (p:=⟨F,0,none⟩) (.inl rfl) _).setCell (p:=⟨F,1,none⟩) (.inl rfl) _) (fun y hy=>.inr (by subst hy;exact Nat.le_of_eq HF.out.symm))⟩
 have HP0:Hid (jl (l.drop 0) 0 []=jM l):=by unfold Hid jM;rw [if_neg hc,List.drop_zero]
 have d1:decide ((1000:Int)<(l.length:Int))=false:=au (by omega)
 have d2:decide (1000<l.length)=false:=au hc
 have HC:Hid (l.length≤1000):=Nat.not_lt.1 hc
 obtain ⟨B,hB⟩:∃B,B=w1.heap.size:=⟨_,rfl⟩
 obtain ⟨w2,hw2⟩:∃w2,w2=w1.alloc (.cells #[.pointer none,.slice none 0 0] 77):=⟨_,rfl⟩
 have B2:Hid (ni B B [] w2):=by
  refine .inl ⟨Nat.le_refl _,.slice none 0 0,?_,⟨rfl,.inl ⟨rfl,rfl⟩⟩,by simp [Value.ownBlock]⟩
  rw [hw2,hB];exact ay w1 _
 have k2:Kept aC w1 w2:=by rw [hw2];exact (Kept.refl aC w1).alloc _
 have F2:=ah (F1.out.kept k2 (fun h=>h));have K2:=ah (K1.out.trans k2)
 have Jc:Hid (F<B):=by rw [hB];unfold Hid;have:=HZ1.out;have:=HF.out;omega
 have HB2:Hid (B<w2.heap.size):=by rw [hB,hw2];unfold Hid;simp
 have HB:=ah hB;have HW2:=ah hw2
 clear hc hB hw2 k2 F1
 go_enter Tryz.func11, Tryz.ntmps11
 go_upto_region 1 with fail
 rw [←HW1.out,←HF.out]
 go_upto_region 4 with fail
 rw [←HW2.out,←HB.out]
 clear HW1 HW2 HB d1 d2
 go_upto_region 5 with fail
 go_loopw [15] (fun i wr=>∃(j:Nat) (d:List UInt8),j≤l.length∧i=.int .i64 j∧Hid (SwI F B l w2 j d wr)) (fun i _=>l.length-(intOf i).toNat)
 case atStart=>exact ⟨0,[],Nat.zero_le _,rfl,⟨HP0.out,Nat.zero_le _,B2.out,Kept.refl _ _⟩⟩
 case round =>
  obtain ⟨j,d,hj,rfl,I0⟩:=hrel
  have KR:Hid (Kept aC w wr):=K2.out.step I0.out.keep (fun y hy=>.inr (by have:B≤y:=hy;have:=Jc.out;have:=HF.out;omega))
  have FR:=ah (F2.out.kept I0.out.keep (by have:=Jc.out;omega))
  have HDL:Hid (d.length≤2001000):=by have:=I0.out.len;have:=HC.out;unfold Hid;omega
  by_cases hlt:j<l.length
  ·obtain ⟨b,o,rfl,hcl⟩:=(HL.out.to KR.out (Safe.lt (Nat.le_refl _)) (fun _ h=>h)) (by omega)
   obtain ⟨a,hx,hSb,hz,hcc,ho⟩:=hcl j hlt
   have hbad:=Td l j d hlt
   have hok:=Wi l j d hlt
   have hpl:=Ti l[j]
   obtain ⟨s,hsd⟩:∃s,s=l[j]:=⟨_,rfl⟩
   rw [←hsd] at hx hz hcc ho hbad hok hpl
   have HX:=ah hx;have HZ:=ah hz;have HO:=ah ho;have HBAD:=ah hbad;have HOK:=ah hok
   have hBs:Hid (B<wr.heap.size):=by have:=I0.out.keep.size;have:=HB2.out;unfold Hid;omega
   clear hcl hx hz ho hsd hSb hbad hok
   go_upto_region 7 with (first
    | (refine mP rfl _ rfl b (o+j*24) rfl a s hcc ?_)
    | (refine jw rfl _ _ rfl wr.heap.size rfl a s rfl _ (ay wr _) rfl ?_;intro w6 KZ hk6;have KA6:Hid (Kept aC wr w6):=((Kept.refl aC wr).alloc _).step hk6 (fun y hy=>.inr (by subst hy;exact Nat.le_refl _));have Vg:=ah KZ;clear KZ hk6))
   obtain ⟨M,hM⟩:∃M,M=wr.heap.size:=⟨_,rfl⟩
   rw [←hM] at Vg⊢
   have HBM:Hid (B<M):=by rw [hM];exact hBs.out
   have Qw:=ah (UC Vg.out)
   have IL:=ah (UF s a w6 HZ.out (HO.out.to KA6.out (Safe.lt KR.out.size) (fun x h=>Nat.lt_of_lt_of_le h (KR.out.trans KA6.out).size)) HX.out (HG.out.next (KR.out.trans KA6.out)))
   clear hM hcc HO HX
   obtain ⟨pt,hpt⟩:∃pt,pt=(fE s).1:=⟨_,rfl⟩
   obtain ⟨pe,hpe⟩:∃pe,pe=(fE s).2:=⟨_,rfl⟩
   rw [←hpt,←hpe] at HOK
   rw [←hpe] at HBAD
   rw [←hpt] at hpl
   have ZT:=ah hpt;have HPE:=ah hpe
   clear hpt hpe
   go_upto_region 8 with (first
    | (refine mP rfl _ rfl M 0 rfl a s Qw.out ?_)
    | (go_at_call 6;(refine IL.out.mono ?_);rintro e w7 ⟨rfl,k7_⟩;rw [←ZT.out,←HPE.out];have Wn:=ah (KA6.out.trans k7_);clear k7_))
   have FR7:=ah (FR.out.kept Wn.out (fun h=>h))
   have BL7:Hid (ni B B d w7):=ni.kept I0.out.jd Wn.out
   have K7:=ah (KR.out.trans Wn.out)
   clear FR IL Qw Vg
   by_cases JO:pe=0
   ·have z:(pe != 0)=false:=by simp [JO]
    have step:=ah (HOK.out JO)
    have es:Hid (((⟨pt.toArray⟩:aj)++(⟨#[10]⟩:aj)).data.toList=pt++[10]):=by unfold Hid;simp [ByteArray.data_append]
    have esz:((⟨pt.toArray⟩:aj)++(⟨#[10]⟩:aj)).size=pt.length+1:=by
     have e:((⟨pt.toArray⟩:aj)++(⟨#[10]⟩:aj)).data.toList.length=((⟨pt.toArray⟩:aj)++(⟨#[10]⟩:aj)).size:=rfl
     rw [←e,es.out];simp
    have hWS:=ah (bM B B d ((⟨pt.toArray⟩:aj)++(⟨#[10]⟩:aj)) w7 BL7.out (by have:=HDL.out;rw [esz];omega) (by have:=HBM.out;have:=Wn.out.size;have:=hBs.out;omega))
    clear esz
    clear JO
    go_wp2_with (go_at_call 31;(refine hWS.out.mono ?_);rintro e w8 ⟨rfl,b8_,qA⟩;rw [es.out] at b8_;have BL8:=ah b8_;have K8:=ah qA;clear b8_ qA)
    go_roundw
    case rel =>
     refine ⟨j+1,d++(pt++[10]),by omega,by go_num,⟨by rw [←step.out];exact I0.out.eq,?_,BL8.out,?_⟩⟩
     ·have:=I0.out.len;simp only [List.length_append,List.length_cons,List.length_nil];omega
     ·exact (I0.out.keep.trans (Wn.out.more (fun _ h=>h.elim))).step K8.out (fun y hy=>by rcases hy with rfl|⟨h,_⟩<;>first|exact .inl (Nat.le_refl _)|exact .inl h)
    case measure=>simp [intOf];omega
   ·have z:(pe != 0)=true:=by simpa using JO
    have fin:Hid (jM l=([],pe,j)):=by unfold Hid;rw [←I0.out.eq,HBAD.out JO]
    obtain ⟨f0,f1,f2,f3⟩:=FR7.out.cells
    clear JO
    go_wp2_with fail
    exact BN rfl rfl rfl (FR7.out.set _ _) ⟨by rw [fin.out]<;>rfl,K7.out.step (((Kept.refl (· = F) _).setCell (p:=⟨F,0,none⟩) (.inl rfl) _).setCell (p:=⟨F,1,none⟩) (.inl rfl) _) (fun y hy=>.inr (by subst hy;exact Nat.le_of_eq HF.out.symm))⟩
  ·obtain rfl:j=l.length:=by omega
   have fin0:Hid (jM l=if 65536<d.length then ([],4,0) else (d,0,0)):=by unfold Hid;rw [←I0.out.eq];exact Tf l d
   obtain ⟨f0,f1,f2,f3⟩:=FR.out.cells
   have HLEN:=ah (Tryz.Builder_Len_f B B _ wr I0.out.jd)
   by_cases hbig:65536<d.length
   ·have x1:decide ((65536:Int)<(d.length:Int))=true:=ak (by omega)
    have x2:decide (65536<d.length)=true:=ak hbig
    have fin:Hid (jM l=([],4,0)):=by unfold Hid;rw [fin0.out,if_pos hbig]
    clear hbig
    go_wp2_with (go_at_call 32;(refine HLEN.out.mono ?_);rintro e w' ⟨rfl,aQ⟩;obtain rfl:=aQ.symm;rw [Lib.byteCells_length])
    exact BN rfl rfl rfl (FR.out.set _ _) ⟨by rw [fin.out]<;>rfl,KR.out.step (((Kept.refl (· = F) _).setCell (p:=⟨F,0,none⟩) (.inl rfl) _).setCell (p:=⟨F,1,none⟩) (.inl rfl) _) (fun y hy=>.inr (by subst hy;exact Nat.le_of_eq HF.out.symm))⟩
   ·have x1:decide ((65536:Int)<(d.length:Int))=false:=au (by omega)
    have x2:decide (65536<d.length)=false:=au hbig
    have fin:Hid (jM l=(d,0,0)):=by unfold Hid;rw [fin0.out,if_neg hbig]
    have aeL:=ah (Tryz.Builder_String_any_f B B d wr I0.out.jd (by have:=I0.out.keep.size;have:=HB2.out;omega))
    clear hbig f0 f1 f2 f3
    go_upto_region 14 with (go_at_call 32;(refine HLEN.out.mono ?_);rintro e w' ⟨rfl,aQ⟩;obtain rfl:=aQ.symm;rw [Lib.byteCells_length])
    have KH:Hid (∀wx,Below B wr wx→Fl F 0 0 wx∧Kept aC w wx):=by
     intro wx hb
     have kx:Kept (fun y=>B≤y) wr wx:=⟨hb.os,hb.tape,hb.output,hb.size,fun k hk hy=>hb.block k (by have:¬B≤k:=hy;omega)⟩
     exact ⟨FR.out.kept kx (by have:=Jc.out;omega),KR.out.step kx (fun y hy=>.inr (by have:B≤y:=hy;have:=Jc.out;have:=HF.out;omega))⟩
    go_wp2_with (go_at_call 33;(refine aeL.out.mono ?_);rintro e w9 ⟨rfl,_,ZX⟩;have F9:=ah (KH.out _ ZX).1;have K9:=ah (KH.out _ ZX).2;obtain ⟨f0,f1,f2,f3⟩:=F9.out.cells;clear ZX)
    exact BN rfl rfl rfl (F9.out.set _ _) ⟨by rw [fin.out]<;>rfl,K9.out.step (((Kept.refl (· = F) _).setCell (p:=⟨F,0,none⟩) (.inl rfl) _).setCell (p:=⟨F,1,none⟩) (.inl rfl) _) (fun y hy=>.inr (by subst hy;exact Nat.le_of_eq HF.out.symm))⟩
end Go.Proofs.YtefjbnhpjdhjmaaGreatDoor
