/-  -/
import Derived.Test.YtgoijmpahffnhaaGreatDoorLc15
import Derived.Test.YtgoijmpahffnhaaGreatDoorLc19
import Derived.Test.YtgoijmpahffnhaaGreatDoorWin
import Derived.Test.YtgoijmpahffnhaaGreatDoorBase
import Derived.Test.YtgoijmpahffnhaaGreatDoorRd3
import Derived.BigQuiet
namespace Go.Proofs.YtgoijmpahffnhaaGreatDoor
set_option linter.all false
open Go.RowKit
theorem kP.qg {w w':World} {S:Nat→Prop} {v:Value} {p:aA} (h:kP w S v p) (hk:Kept aB w w') (hS:Safe S aB w.heap.size):kP w' S v p:=by
 obtain ⟨a,c,e,z,k⟩:=h
 exact ⟨a,c,e,z,k.kept hk hS⟩
theorem kP.all {w:World} {S:Nat→Prop} {v:Value} {p:aA} (h:kP w S v p) (hS:Safe S aB w.heap.size):kP w (· < w.heap.size) v p:=by
 obtain ⟨a,c,e,z,k⟩:=h
 exact ⟨a,c,e,z,aI.same (fun _ _=>rfl) (fun b hb=>(hS b hb).1) _ _ k⟩
theorem PS (l:List Int) (j:Nat) (h:j<l.length):dR (l.drop j)=if l[j]=0 then dR (l.drop (j+1)) else l[j]:=by
 rw [List.drop_eq_getElem_cons h,dR]
theorem Qz:(Tryz.prog.info? 25).map (fun i=>(i.zero,i.size,i.bytes))=some (some (.int .i64 0),1,8):=by kernel_rfl
theorem Me {w:World} {g:Nat} {es:List Int} (hg:w.heap[g]?=some (.cells (es.map (Value.int .i64)).toArray 25 (0,0))) :
  Src Tryz.prog 1 163 (.slice (some ⟨g,0,none⟩) es.length es.length) es.length (es.map (Value.int .i64)) w:=by
 have h:=World.news_of_block (fr:=(0,0)) (cs:=(es.map (Value.int .i64)).toArray) hg
 simp only [List.toList_toArray,List.size_toArray,List.length_map] at h
 exact Src.ofSlice _ Tryz.underlying163 _ _ _ _ (by simp) h (by intro u hu;obtain ⟨e,_,rfl⟩:=List.mem_map.1 hu;rfl)
theorem iO {ops:Array Oper} {rest:List Oper} {o:Oper} {a:Act} {Q:Exit→Act→World→Prop} {w w0:World} (hgd:o.guard=none) (s x:Operand)
  (ho:o.op=.call {callee:=.builtin .append,args:=#[s,x],argTypes:=#[163,163]})
  (v:Value) (n:Nat) (xs:List Value) (hs:a.eval s=v) (B:Nat) (hown:aS w B 25 1 v n xs) (es:List Int) (g:Nat) (hx:a.eval x=.slice (some ⟨g,0,none⟩) es.length es.length)
  (hg:w.heap[g]?=some (.cells (es.map (Value.int .i64)).toArray 25 (0,0))) (hn:n+es.length≤1000) (hB:B≤w.heap.size) (K0:Kept aB w0 w) (hB0:w0.heap.size≤B)
  (h:∀a' c' w',aS w' B 25 1 (.slice a' (n+es.length) c') (n+es.length) (xs++es.map (Value.int .i64))→Kept aB w0 w'→w.heap.size≤w'.heap.size→wpList Tryz.prog ops Q rest (a.put o.dst (.slice a' (n+es.length) c')) w') :
  wpList Tryz.prog ops Q (o::rest) a w:=by
 obtain ⟨i0,hi0,hz0,hz1,hz2⟩:=info_parts Qz
 refine dK w hgd s x _ _ ho B 25 i0 (.int .i64 0) 1 8 Tryz.underlying163 hi0 hz0 hz1 hz2 rfl v n xs hs hown _ es.length (es.map (Value.int .i64)) hx (Me hg) (by unfold maxLen;omega) (by omega) hB ?_
 intro a' c' w' hW hgr _
 exact h a' c' w' hW (K0.grown hgr fun k hk=>.inr (by have:=(hown.lt k hk).1;omega)) hgr.size
theorem MB {i:Nat} {o:Oper} {x:Act} {w:World} {R:Nat→Value→World→Prop} {Q:Exit→Act→World→Prop} (s y:Operand)
  (ho:o.op=.call {callee:=.builtin .append,args:=#[s,y],argTypes:=#[163,163]})
  (hs:x.eval s=.slice none 0 0) (es:List Int) (g:Nat) (hx:x.eval y=.slice (some ⟨g,0,none⟩) es.length es.length)
  (hg:w.heap[g]?=some (.cells (es.map (Value.int .i64)).toArray 25 (0,0))) (hn:es.length≤1000) (B:Nat) (hB:B≤w.heap.size)
  (h:∀a' c' w',aS w' B 25 1 (.slice a' es.length c') es.length (es.map (Value.int .i64))→R i (.slice a' es.length c') w') :
  o.wp Tryz.prog x w (fun a' w'=>∃v,a'=x.put o.dst v∧(∀d,o.dst=some d→R i v w')∧Kept aB w w') Q:=by
 obtain ⟨i0,hi0,hz0,hz1,hz2⟩:=info_parts Qz
 refine sK w s y _ _ ho B 25 i0 (.int .i64 0) 1 8 Tryz.underlying163 hi0 hz0 hz1 hz2 rfl (.slice none 0 0) 0 [] hs (aS.nil ..) _ es.length (es.map (Value.int .i64)) hx (Me hg) (by unfold maxLen;omega) (by omega) hB ?_
 intro a' c' w' hW hgr _
 simp only [Nat.zero_add,List.nil_append] at hW⊢
 exact ⟨_,rfl,fun _ _=>h a' c' w' hW,(Kept.refl aB w).grown hgr fun k hk=>by cases hk⟩
end Go.Proofs.YtgoijmpahffnhaaGreatDoor

namespace Go.Proofs.YtgoijmpahffnhaaGreatDoor
set_option linter.all false
open Go.RowKit
def Five (M:Nat) (c0 c1 c2 c3 c4:Value) (w:World):Prop:=w.heap[M]?=some (.cells #[c0,c1,c2,c3,c4] 57 (0,0))
theorem Five.lt {M:Nat} {c0 c1 c2 c3 c4:Value} {w:World} (h:Five M c0 c1 c2 c3 c4 w):M<w.heap.size:=(Array.getElem?_eq_some_iff.1 h).1
theorem Five.kept {M:Nat} {c0 c1 c2 c3 c4:Value} {w w':World} {X:Nat→Prop} (h:Five M c0 c1 c2 c3 c4 w) (hk:Kept X w w') (hx:¬X M):Five M c0 c1 c2 c3 c4 w':=by
 unfold Five;rw [hk.block M h.lt hx];exact h
theorem Five.cells {M:Nat} {c0 c1 c2 c3 c4:Value} {w:World} (h:Five M c0 c1 c2 c3 c4 w):w.cell? ⟨M,0,none⟩=some c0∧w.cell? ⟨M,1,none⟩=some c1∧w.cell? ⟨M,2,none⟩=some c2∧w.cell? ⟨M,3,none⟩=some c3∧w.cell? ⟨M,4,none⟩=some c4∧∀o,w.frozen? ⟨M,o,none⟩=false:=by
 unfold Five at h
 refine ⟨?_,?_,?_,?_,?_,fun o=>by simp [World.frozen?,h]⟩<;>(rw [cell_of_row w M _ _ _ _ h];rfl)
def aZ (w:World) (M:Nat) (c0 c1 c2 c3 c4:Value):World:=((((w.setCell ⟨M,0,none⟩ c0).setCell ⟨M,1,none⟩ c1).setCell ⟨M,2,none⟩ c2).setCell ⟨M,3,none⟩ c3).setCell ⟨M,4,none⟩ c4
end Go.Proofs.YtgoijmpahffnhaaGreatDoor

namespace Go.Proofs.YtgoijmpahffnhaaGreatDoor
set_option linter.all false
open Go.RowKit
structure aC where
 kind:Int
 text:aj
 at_:Nat
def lY (s:aj) (i:Nat):Option Nat:=(dS (s.data.toList.drop i)).map (·.2)
theorem afw {s:aj} {i:Nat} (h:s.size≤i):lY s i=none:=by unfold lY;rw [drop_end h];rfl
theorem acp {s:aj} {i:Nat} (h:i<s.size) (hc:s[i].toNat≠39):lY s i=(lY s (i+1)).map (· + 1):=by
 have hc':¬s[i]=39:=fun e=>hc (by rw [e];rfl)
 unfold lY
 rw [drop_cons h]
 by_cases h2:i+1<s.size
 ·rw [drop_cons h2,dS,if_neg hc']
  cases dS (s[i+1]::s.data.toList.drop (i+1+1))<;>rfl
 ·rw [drop_end (by omega)]
  have e:dS [s[i]]=none:=by rw [dS,if_neg hc']
  rw [e];rfl
theorem afx {s:aj} {i:Nat} (h:i+1<s.size) (hc:s[i].toNat=39) (hd:s[i+1].toNat=39):lY s i=(lY s (i+2)).map (· + 2):=by
 have hc':s[i]=39:=UInt8.toNat_inj.1 hc
 have hd':s[i+1]=39:=UInt8.toNat_inj.1 hd
 unfold lY
 rw [drop_cons (show i<s.size by omega),drop_cons h,dS,if_pos hc',if_pos hd']
 show ((dS (s.data.toList.drop (i+2))).map _).map _=_
 cases dS (s.data.toList.drop (i+2))<;>rfl
theorem afy {s:aj} {i:Nat} (h:i<s.size) (hc:s[i].toNat=39) (hd:¬∃h:i+1<s.size,s[i+1].toNat=39):lY s i=some 1:=by
 have hc':s[i]=39:=UInt8.toNat_inj.1 hc
 unfold lY
 rw [drop_cons h]
 by_cases h2:i+1<s.size
 ·have hd':¬s[i+1]=39:=fun e=>hd ⟨h2,by rw [e];rfl⟩
  rw [drop_cons h2,dS,if_pos hc',if_neg hd'];rfl
 ·rw [drop_end (by omega),dS,if_pos hc'];rfl
theorem aeY {s:aj} {i n:Nat} (h:lY s i=some n):0<n∧i+n≤s.size:=by
 unfold lY at h
 cases ht:dS (s.data.toList.drop i) with
 | none=>rw [ht] at h;cases h
 | some x =>
  obtain ⟨b,m⟩:=x
  rw [ht] at h
  simp only [Option.map_some,Option.some.injEq] at h
  subst h
  have h1:=uw _ _ _ ht
  rw [List.length_drop] at h1
  have e:s.data.toList.length=s.size:=rfl
  omega
theorem extract_drop (s:aj) (a:Nat):(s.extract a s.size).data.toList=s.data.toList.drop a:=by
 have e:s.data.size=s.size:=rfl
 rw [ByteArray.data_extract,Array.toList_extract,List.extract_eq_drop_take]
 refine List.take_of_length_le ?_
 rw [List.length_drop,Array.length_toList];omega
theorem D9 (s:aj) (a i:Nat):lY (s.extract a s.size) i=lY s (a+i):=by
 unfold lY;rw [extract_drop,List.drop_drop]
def Ce (s:aj):Nat→Nat→Option Nat
 | 0,_=>none
 | f+1,i =>
  if h:i<s.size then
   if s[i].toNat=93 then some 1
   else if s[i].toNat=39 then
    match lY s (i+1) with
    | none=>none
    | some n=>(Ce s f (i+1+n)).map (· + (n+1))
   else (Ce s f (i+1)).map (· + 1)
  else none
theorem BK {s:aj}:∀(f g i:Nat),s.size-i≤f→s.size-i≤g→Ce s f i=Ce s g i
 | 0,0,_,_,_=>rfl
 | 0,g+1,i,h,_=>by rw [Ce,Ce,dif_neg (by omega)]
 | f+1,0,i,_,h=>by rw [Ce,Ce,dif_neg (by omega)]
 | f+1,g+1,i,h1,h2=>by
  rw [Ce,Ce]
  split
  ·split
   ·rfl
   ·split
    ·cases hq:lY s (i+1) with
     | none=>rfl
     | some n=>dsimp only;rw [BK f g _ (by omega) (by omega)]
    ·rw [BK f g _ (by omega) (by omega)]
  ·rfl
def sH (s:aj) (i:Nat):Option Nat:=Ce s (s.size-i) i
theorem Eo {s:aj} {i:Nat} (h:s.size≤i):sH s i=none:=by
 unfold sH;rw [show s.size-i=0 by omega];rfl
theorem yG {s:aj} {i:Nat} (h:i<s.size):sH s i=if s[i].toNat=93 then some 1 else if s[i].toNat=39 then (match lY s (i+1) with|none=>none|some n=>(sH s (i+1+n)).map (· + (n+1))) else (sH s (i+1)).map (· + 1):=by
 have e:s.size-i=(s.size-i-1)+1:=by omega
 unfold sH
 rw [e,Ce,dif_pos h]
 split
 ·rfl
 ·split
  ·cases hq:lY s (i+1) with
   | none=>rfl
   | some n=>dsimp only;rw [BK _ (s.size-(i+1+n)) _ (by omega) (Nat.le_refl _)]
  ·rw [BK _ (s.size-(i+1)) _ (by omega) (Nat.le_refl _)]
theorem UO {s:aj}:∀(m i n:Nat),s.size-i≤m→sH s i=some n→0<n∧i+n≤s.size
 | m,i,n,hm,h=>by
  by_cases hi:i<s.size
  ·rw [yG hi] at h
   split at h
   ·simp only [Option.some.injEq] at h;omega
   ·cases m with
    | zero=>omega
    | succ m =>
     split at h
     ·cases hq:lY s (i+1) with
      | none=>rw [hq] at h;cases h
      | some k =>
       rw [hq] at h
       dsimp only at h
       have hk:=aeY hq
       cases hb:sH s (i+1+k) with
       | none=>rw [hb] at h;cases h
       | some x =>
        rw [hb] at h
        simp only [Option.map_some,Option.some.injEq] at h
        have:=UO m (i+1+k) x (by omega) hb
        omega
     ·cases hb:sH s (i+1) with
      | none=>rw [hb] at h;cases h
      | some x =>
       rw [hb] at h
       simp only [Option.map_some,Option.some.injEq] at h
       have:=UO m (i+1) x (by omega) hb
       omega
  ·rw [Eo (by omega)] at h;cases h
theorem UQ {s:aj} {a i:Nat} (h:a+i<s.size) (h':i<(s.extract a s.size).size):(s.extract a s.size)[i]=s[a+i]:=by
 have e1:(s.extract a s.size)[i]=(s.extract a s.size).data.toList[i]'(by simpa using h'):=by rw [Array.getElem_toList];rfl
 have e2:s[a+i]=s.data.toList[a+i]'(by simpa using h):=by rw [Array.getElem_toList];rfl
 rw [e1,e2]
 simp only [extract_drop,List.getElem_drop]
theorem sQ (s:aj) (a:Nat):(s.extract a s.size).size=s.size-a:=by
 have h:=congrArg List.length (extract_drop s a)
 rw [List.length_drop] at h
 exact h
theorem X8 (s:aj) (a:Nat):∀(m i:Nat),s.size-(a+i)≤m→sH (s.extract a s.size) i=sH s (a+i):=by
 have hz:=sQ s a
 intro m
 induction m with
 | zero=>intro i h;rw [Eo (by omega),Eo (by omega)]
 | succ m ih =>
  intro i h
  by_cases hi:a+i<s.size
  ·have hi':i<(s.extract a s.size).size:=by omega
   rw [yG hi,yG hi',UQ hi hi',D9]
   split
   ·rfl
   ·split
    ·cases hq:lY s (a+(i+1)) with
     | none=>rfl
     | some n =>
      show (sH (s.extract a s.size) (i+1+n)).map _=(sH s (a+i+1+n)).map _
      rw [ih (i+1+n) (by omega),show a+(i+1+n)=a+i+1+n by omega]
    ·rw [ih (i+1) (by omega),show a+(i+1)=a+i+1 by omega]
  ·rw [Eo (by omega),Eo (by omega)]
def UR:List Nat:=[61,63,38,43,45,42,47,37,40,41,60,62,44,58,36]
inductive qw where
 | blank
 | tok (t:aC) (next:Nat)
 | bad (er:Er)
def dN (s:aj) (i:Nat) (h:i<s.size):qw :=
 if s[i].toNat=32 then .blank
 else if 65≤s[i].toNat∧s[i].toNat≤90 then .tok ⟨1,s.extract i (bJ jO s i),i⟩ (bJ jO s i)
 else if 48≤s[i].toNat∧s[i].toNat≤57 then .tok ⟨2,s.extract i (bJ dF s i),i⟩ (bJ dF s i)
 else if s[i].toNat=39 then
  match dS (s.data.toList.drop (i+1)) with
  | none=>.bad (2,s.size)
  | some (b,n)=>.tok ⟨3,⟨b.toArray⟩,i⟩ (i+1+n)
 else if s[i].toNat=91 then
  match sH s (i+1) with
  | none=>.bad (2,s.size)
  | some n=>.tok ⟨4,s.extract (i+1) (i+n),i⟩ (i+1+n)
 else if s[i].toNat=58∧peek s (i+1)=61 then .tok ⟨5,s.extract i (i+2),i⟩ (i+2)
 else if s[i].toNat∈UR then .tok ⟨5,s.extract i (i+1),i⟩ (i+1)
 else .bad (2,i)
def ny (s:aj):Nat→Nat→List aC→Except Er (List aC)
 | 0,_,out=>.ok out
 | f+1,i,out =>
  if h:i<s.size then
   match dN s i h with
   | .blank=>ny s f (i+1) out
   | .tok t k=>ny s f k (out++[t])
   | .bad er=>.error er
  else .ok out
theorem KU (c:UInt8):dF c=(decide (48≤c.toNat)&&decide (c.toNat≤57)):=by
 rw [Bool.eq_iff_iff];simp [dF]
theorem nZ {s:aj} {i:Nat} {h:i<s.size} {t:aC} {k:Nat} (e:dN s i h=.tok t k):i<k∧k≤s.size∧t.at_=i∧t.text.size≤s.size:=by
 have hx:∀a b:Nat,(s.extract a b).size≤s.size:=by
  intro a b
  rw [ByteArray.size_extract];omega
 unfold dN at e
 split at e
 ·cases e
 split at e
 ·rename_i h1
  simp only [qw.tok.injEq] at e
  obtain ⟨rfl,rfl⟩:=e
  have hw:jO s[i]=true:=by rw [Pq];simp;omega
  have h2:=OY jO s (i+1);have h3:=OZ (f:=jO) (show i≤s.size by omega)
  rw [vP h hw] at h3⊢
  exact ⟨by omega,h3,rfl,hx _ _⟩
 split at e
 ·rename_i h1
  simp only [qw.tok.injEq] at e
  obtain ⟨rfl,rfl⟩:=e
  have hw:dF s[i]=true:=by rw [KU];simp;omega
  have h2:=OY dF s (i+1);have h3:=OZ (f:=dF) (show i≤s.size by omega)
  rw [vP h hw] at h3⊢
  exact ⟨by omega,h3,rfl,hx _ _⟩
 split at e
 ·cases ht:dS (s.data.toList.drop (i+1)) with
  | none=>rw [ht] at e;cases e
  | some x =>
   obtain ⟨b,n⟩:=x
   rw [ht] at e
   simp only [qw.tok.injEq] at e
   obtain ⟨rfl,rfl⟩:=e
   have h1:=uw _ _ _ ht
   rw [List.length_drop] at h1
   have e0:s.data.toList.length=s.size:=rfl
   have e1:(⟨b.toArray⟩:aj).size=b.length:=by show b.toArray.size=_;simp
   exact ⟨by omega,by omega,rfl,by rw [e1];omega⟩
 split at e
 ·cases hb:sH s (i+1) with
  | none=>rw [hb] at e;cases e
  | some n =>
   rw [hb] at e
   simp only [qw.tok.injEq] at e
   obtain ⟨rfl,rfl⟩:=e
   have:=UO _ _ _ (Nat.le_refl _) hb
   exact ⟨by omega,by omega,rfl,hx _ _⟩
 split at e
 ·rename_i h1
  simp only [qw.tok.injEq] at e
  obtain ⟨rfl,rfl⟩:=e
  have:i+1<s.size:=oz (by omega)
  exact ⟨by omega,by omega,rfl,hx _ _⟩
 split at e
 ·simp only [qw.tok.injEq] at e
  obtain ⟨rfl,rfl⟩:=e
  exact ⟨by omega,by omega,rfl,hx _ _⟩
 ·cases e
theorem xO {s:aj}:∀(f g i:Nat) (out:List aC),s.size-i≤f→s.size-i≤g→ny s f i out=ny s g i out
 | 0,0,_,_,_,_=>rfl
 | 0,g+1,i,out,h,_=>by rw [ny,ny,dif_neg (by omega)]
 | f+1,0,i,out,_,h=>by rw [ny,ny,dif_neg (by omega)]
 | f+1,g+1,i,out,h1,h2=>by
  rw [ny,ny]
  split
  ·rename_i hi
   cases hs:dN s i hi with
   | blank=>dsimp only;rw [xO f g _ _ (by omega) (by omega)]
   | tok t k=>have:=nZ hs;dsimp only;rw [xO f g _ _ (by omega) (by omega)]
   | bad er=>rfl
  ·rfl
def wY (s:aj) (i:Nat) (out:List aC):Except Er (List aC):=ny s (s.size-i) i out
theorem aaf {s:aj} {i:Nat} {out:List aC} (h:s.size≤i):wY s i out=.ok out:=by
 unfold wY;rw [show s.size-i=0 by omega];rfl
theorem X9 {s:aj} {i:Nat} (out:List aC) (h:i<s.size):wY s i out=match dN s i h with | .blank=>wY s (i+1) out | .tok t k=>wY s k (out++[t]) | .bad er=>.error er:=by
 have e:s.size-i=(s.size-i-1)+1:=by omega
 unfold wY
 rw [e,ny,dif_pos h]
 cases hs:dN s i h with
 | blank=>dsimp only;rw [xO _ (s.size-(i+1)) _ _ (by omega) (Nat.le_refl _)]
 | tok t k=>have:=nZ hs;dsimp only;rw [xO _ (s.size-k) _ _ (by omega) (Nat.le_refl _)]
 | bad er=>rfl
def kV (s:aj):Except Er (List aC):=if 2000<s.size then .error (4,0) else wY s 0 []
def Dp (t:aC):List Value:=[.int .i64 t.kind,.string t.text,.int .i64 t.at_]
def kT (l:List aC):List Value:=l.flatMap Dp
theorem Qy (a b:List aC):kT (a++b)=kT a++kT b:=by unfold kT;rw [List.flatMap_append]
theorem aag (t:aC):kT [t]=Dp t:=by simp [kT]
end Go.Proofs.YtgoijmpahffnhaaGreatDoor

namespace Go.Proofs.YtgoijmpahffnhaaGreatDoor
set_option linter.all false
open Go.RowKit
set_option maxRecDepth 100000
set_option maxHeartbeats 2000000
def LQ (b:Bool) (w:World) (e:Ending) (w':World):Prop:=e=.returned (.bool b)∧w'=w
theorem gq (c:UInt8) (w:World):Calls Tryz.prog 43 #[.int .u8 c.toNat] w (LQ (jD c) w):=by
 rcases (show c.toNat<65∨(65≤c.toNat∧c.toNat≤90)∨90<c.toNat by omega) with h|⟨h,h2⟩|h
 ·have fin:Hid (jD c=false):=by unfold Hid jD;simp;omega
  have d1:decide ((65:Int)≤(c.toNat:Int))=false:=au (by omega)
  have d2:decide (65≤c.toNat)=false:=au (by omega)
  clear h
  go_enter Tryz.func43, Tryz.ntmps43
  go_wp2_with fail
  go_ret
  exact ⟨by rw [fin.out];rfl,rfl⟩
 ·have fin:Hid (jD c=true):=by unfold Hid jD;simp;omega
  have d1:decide ((65:Int)≤(c.toNat:Int))=true:=ak (by omega)
  have d2:decide (65≤c.toNat)=true:=ak (by omega)
  have d3:decide ((c.toNat:Int)≤90)=true:=ak (by omega)
  have d4:decide (c.toNat≤90)=true:=ak (by omega)
  clear h h2
  go_enter Tryz.func43, Tryz.ntmps43
  go_wp2_with fail
  go_ret
  exact ⟨by rw [fin.out];rfl,rfl⟩
 ·have fin:Hid (jD c=false):=by unfold Hid jD;simp;omega
  have d1:decide ((65:Int)≤(c.toNat:Int))=true:=ak (by omega)
  have d2:decide (65≤c.toNat)=true:=ak (by omega)
  have d3:decide ((c.toNat:Int)≤90)=false:=au (by omega)
  have d4:decide (c.toNat≤90)=false:=au (by omega)
  clear h
  go_enter Tryz.func43, Tryz.ntmps43
  go_wp2_with fail
  go_ret
  exact ⟨by rw [fin.out];rfl,rfl⟩
theorem gu (c:UInt8) (w:World):Calls Tryz.prog 44 #[.int .u8 c.toNat] w (LQ (dF c) w):=by
 rcases (show c.toNat<48∨(48≤c.toNat∧c.toNat≤57)∨57<c.toNat by omega) with h|⟨h,h2⟩|h
 ·have fin:Hid (dF c=false):=by unfold Hid dF;simp;omega
  have d1:decide ((48:Int)≤(c.toNat:Int))=false:=au (by omega)
  have d2:decide (48≤c.toNat)=false:=au (by omega)
  clear h
  go_enter Tryz.func44, Tryz.ntmps44
  go_wp2_with fail
  go_ret
  exact ⟨by rw [fin.out];rfl,rfl⟩
 ·have fin:Hid (dF c=true):=by unfold Hid dF;simp;omega
  have d1:decide ((48:Int)≤(c.toNat:Int))=true:=ak (by omega)
  have d2:decide (48≤c.toNat)=true:=ak (by omega)
  have d3:decide ((c.toNat:Int)≤57)=true:=ak (by omega)
  have d4:decide (c.toNat≤57)=true:=ak (by omega)
  clear h h2
  go_enter Tryz.func44, Tryz.ntmps44
  go_wp2_with fail
  go_ret
  exact ⟨by rw [fin.out];rfl,rfl⟩
 ·have fin:Hid (dF c=false):=by unfold Hid dF;simp;omega
  have d1:decide ((48:Int)≤(c.toNat:Int))=true:=ak (by omega)
  have d2:decide (48≤c.toNat)=true:=ak (by omega)
  have d3:decide ((c.toNat:Int)≤57)=false:=au (by omega)
  have d4:decide (c.toNat≤57)=false:=au (by omega)
  clear h
  go_enter Tryz.func44, Tryz.ntmps44
  go_wp2_with fail
  go_ret
  exact ⟨by rw [fin.out];rfl,rfl⟩
def qL (t:aj) (j:Nat):Nat:=match lY t j with|none=>0|some n=>j+n
theorem aah {t:aj} {j:Nat} (h:j<t.size) (hc:t[j].toNat≠39):qL t (j+1)=qL t j:=by
 unfold qL;rw [acp h hc]
 cases lY t (j+1) with
 | none=>rfl
 | some n=>show j+1+n=j+(n+1);omega
theorem aeZ {t:aj} {j:Nat} (h:j+1<t.size) (hc:t[j].toNat=39) (hd:t[j+1].toNat=39):qL t (j+2)=qL t j:=by
 unfold qL;rw [afx h hc hd]
 cases lY t (j+2) with
 | none=>rfl
 | some n=>show j+2+n=j+(n+2);omega
theorem ae0 {t:aj} {j:Nat} (h:j<t.size) (hc:t[j].toNat=39) (hd:¬∃h:j+1<t.size,t[j+1].toNat=39):qL t j=j+1:=by
 unfold qL;rw [afy h hc hd]
theorem ae1 {t:aj} {j:Nat} (h:t.size≤j):qL t j=0:=by unfold qL;rw [afw h]
def wX (n:Nat) (w:World) (e:Ending) (w':World):Prop:=e=.returned (.int .i64 n)∧w'=w
theorem Iz (t:aj) (w:World) (hs:t.size≤1000000000):Calls Tryz.prog 45 #[.string t] w (wX (qL t 1) w):=by
 go_enter Tryz.func45, Tryz.ntmps45
 go_wp2_with fail
 go_loopw [3] (fun i wr=>∃j:Nat,i=.int .i64 j∧j≤t.size+1∧Hid (qL t j=qL t 1)∧wr=w) (fun i _=>t.size+1-(intOf i).toNat)
 case atStart=>exact ⟨1,rfl,by omega,rfl,by trivial⟩
 case round =>
  obtain ⟨j,rfl,hj,hq,aK⟩:=hrel
  obtain rfl:=aK.symm
  by_cases hlt:j<t.size
  ·have c1:decide ((j:Int)<(t.size:Int))=true:=ak (by omega)
   have c1':decide (j<t.size)=true:=ak hlt
   have cb:(j:Int)<(t.size:Int):=by omega
   by_cases hc:t[j].toNat=39
   ·have c2:((t[j].toNat:Int) != 39)=false:=by simp;omega
    obtain ⟨m1,RZ⟩:∃m1:Nat,m1=j+1:=⟨_,rfl⟩
    have ajC:(j:Int)+1=(m1:Int):=by omega
    have EM:=ah RZ
    by_cases hd:∃h:j+1<t.size,t[j+1].toNat=39
    ·obtain ⟨h2,h3⟩:=hd
     have step:=ah (aeZ h2 hc h3)
     have hl1:m1<t.size:=by omega
     have h3':t[m1].toNat=39:=by simp only [RZ];exact h3
     have g3:decide ((m1:Int)<(t.size:Int))=true:=ak (by omega)
     have g3':decide (m1<t.size)=true:=ak hl1
     have g4:((t[m1].toNat:Int)==39)=true:=by simp;omega
     have bi2:(m1:Int)<(t.size:Int):=by omega
     clear hc h3 h3' RZ h2
     go_wp2_with fail
     go_roundw
     case rel=>exact ⟨j+2,by have:=EM.out;go_num,by have:=EM.out;omega,step.out.trans hq.out,by trivial⟩
     case measure=>have:=EM.out;simp [intOf];omega
    ·have fin:Hid (qL t 1=m1):=by unfold Hid;rw [←hq.out,ae0 hlt hc hd,EM.out]
     by_cases hl1:m1<t.size
     ·have g3:decide ((m1:Int)<(t.size:Int))=true:=ak (by omega)
      have g3':decide (m1<t.size)=true:=ak hl1
      have h3':t[m1].toNat≠39:=fun h=>hd ⟨by omega,by simp only [RZ] at h;exact h⟩
      have g4:((t[m1].toNat:Int)==39)=false:=by simp;omega
      have bi2:(m1:Int)<(t.size:Int):=by omega
      clear hc hd h3' RZ hq
      go_wp2_with fail
      go_ret
      exact ⟨by rw [fin.out];rfl,rfl⟩
     ·have g3:decide ((m1:Int)<(t.size:Int))=false:=au (by omega)
      have g3':decide (m1<t.size)=false:=au hl1
      clear hc hd RZ hq
      go_wp2_with fail
      go_ret
      exact ⟨by rw [fin.out];rfl,rfl⟩
   ·have c2:((t[j].toNat:Int) != 39)=true:=by simp;omega
    have step:=ah (aah hlt hc)
    clear hc
    go_wp2_with fail
    go_roundw
    case rel=>exact ⟨j+1,by go_num,by omega,step.out.trans hq.out,by trivial⟩
    case measure=>simp [intOf];omega
  ·have c1:decide ((j:Int)<(t.size:Int))=false:=au (by omega)
   have c1':decide (j<t.size)=false:=au hlt
   have fin:Hid (qL t 1=0):=by unfold Hid;rw [←hq.out,ae1 (by omega)]
   clear hq
   go_wp2_with fail
   go_ret
   exact ⟨by rw [fin.out];rfl,rfl⟩
def bL (t:aj) (j:Nat):Nat:=match sH t j with|none=>0|some n=>j+n
theorem aai {t:aj} {j:Nat} (h:j<t.size) (hc:t[j].toNat=93):bL t j=j+1:=by unfold bL;rw [yG h,if_pos hc]
theorem acr {t:aj} {j:Nat} (h:j<t.size) (hc:t[j].toNat=39) (hq:lY t (j+1)=none):bL t j=0:=by
 unfold bL;rw [yG h,if_neg (by omega),if_pos hc,hq]
theorem acs {t:aj} {j n:Nat} (h:j<t.size) (hc:t[j].toNat=39) (hq:lY t (j+1)=some n):bL t (j+1+n)=bL t j:=by
 unfold bL;rw [yG h,if_neg (by omega),if_pos hc,hq]
 dsimp only
 cases sH t (j+1+n) with
 | none=>rfl
 | some m=>show j+1+n+m=j+(m+(n+1));omega
theorem aaj {t:aj} {j:Nat} (h:j<t.size) (h1:t[j].toNat≠93) (h2:t[j].toNat≠39):bL t (j+1)=bL t j:=by
 unfold bL;rw [yG h,if_neg h1,if_neg h2]
 cases sH t (j+1) with
 | none=>rfl
 | some m=>show j+1+m=j+(m+1);omega
theorem ae2 {t:aj} {j:Nat} (h:t.size≤j):bL t j=0:=by unfold bL;rw [Eo h]
theorem LH (t:aj) (w:World) (hs:t.size≤1000000000):Calls Tryz.prog 47 #[.string t] w (wX (bL t 1) w):=by
 have hQ:Hid (∀(j:Nat),Calls Tryz.prog 45 #[.string (t.extract j t.size)] w (wX (qL (t.extract j t.size) 1) w)):=fun j=>Iz _ w (by rw [sQ];omega)
 go_enter Tryz.func47, Tryz.ntmps47
 go_wp2_with fail
 go_loopw [3] (fun i wr=>∃j:Nat,i=.int .i64 j∧j≤t.size+1∧Hid (bL t j=bL t 1)∧wr=w) (fun i _=>t.size+1-(intOf i).toNat)
 case atStart=>exact ⟨1,rfl,by omega,rfl,by trivial⟩
 case round =>
  obtain ⟨j,rfl,hj,hq,aK⟩:=hrel
  obtain rfl:=aK.symm
  by_cases hlt:j<t.size
  ·have c1:decide ((j:Int)<(t.size:Int))=true:=ak (by omega)
   have c1':decide (j<t.size)=true:=ak hlt
   have cb:(j:Int)<(t.size:Int):=by omega
   by_cases hc:t[j].toNat=93
   ·have c2:((t[j].toNat:Int)==93)=true:=by simp;omega
    have fin:Hid (bL t 1=j+1):=by unfold Hid;rw [←hq.out,aai hlt hc]
    clear hc hq
    go_wp2_with fail
    go_ret
    exact ⟨by rw [fin.out];rfl,rfl⟩
   have c2:((t[j].toNat:Int)==93)=false:=by simp;omega
   by_cases hd:t[j].toNat=39
   ·have c3:((t[j].toNat:Int)==39)=true:=by simp;omega
    have eq1:qL (t.extract j t.size) 1=match lY t (j+1) with|none=>0|some n=>n+1:=by
     unfold qL;rw [D9]
     cases lY t (j+1) with
     | none=>rfl
     | some n=>show 1+n=n+1;omega
    cases hqa:lY t (j+1) with
    | none =>
     rw [hqa] at eq1
     have fin:Hid (bL t 1=0):=by unfold Hid;rw [←hq.out,acr hlt hd hqa]
     have HQ:Hid (Calls Tryz.prog 45 #[.string (t.extract j t.size)] w (wX 0 w)):=by have h:=hQ.out j;rw [eq1] at h;exact h
     clear hc hd hq hqa eq1
     go_wp2_with (go_at_call 45;(refine HQ.out.mono ?_);rintro e w' ⟨rfl,aK⟩;obtain rfl:=aK.symm)
     go_ret
     exact ⟨by rw [fin.out];rfl,rfl⟩
    | some n =>
     rw [hqa] at eq1
     have hle:=aeY hqa
     have step:=ah (acs hlt hd hqa)
     have HQ:Hid (Calls Tryz.prog 45 #[.string (t.extract j t.size)] w (wX (n+1) w)):=by have h:=hQ.out j;rw [eq1] at h;exact h
     obtain ⟨n1,IE⟩:∃n1:Nat,n1=n+1:=⟨_,rfl⟩
     rw [←IE] at HQ
     have EN:=ah IE
     have HW:Hid (wrap64 (wrap64 ((j:Int)+wrap64 ((n1:Int)-1))+1)=((j+1+n:Nat):Int)):=by unfold Hid wrap64;omega
     have zn:((n1:Int)==0)=false:=by simp;omega
     clear hc hd hqa eq1 IE
     go_wp2_with (go_at_call 45;(refine HQ.out.mono ?_);rintro e w' ⟨rfl,aK⟩;obtain rfl:=aK.symm)
     go_roundw
     case rel=>exact ⟨j+1+n,congrArg (Value.int .i64) HW.out,by omega,step.out.trans hq.out,by trivial⟩
     case measure=>simp only [intOf,HW.out];omega
   ·have c3:((t[j].toNat:Int)==39)=false:=by simp;omega
    have step:=ah (aaj hlt hc hd)
    clear hc hd
    go_wp2_with fail
    go_roundw
    case rel=>exact ⟨j+1,by go_num,by omega,step.out.trans hq.out,by trivial⟩
    case measure=>simp [intOf];omega
  ·have c1:decide ((j:Int)<(t.size:Int))=false:=au (by omega)
   have c1':decide (j<t.size)=false:=au hlt
   have fin:Hid (bL t 1=0):=by unfold Hid;rw [←hq.out,ae2 (by omega)]
   clear hq
   go_wp2_with fail
   go_ret
   exact ⟨by rw [fin.out];rfl,rfl⟩
end Go.Proofs.YtgoijmpahffnhaaGreatDoor
