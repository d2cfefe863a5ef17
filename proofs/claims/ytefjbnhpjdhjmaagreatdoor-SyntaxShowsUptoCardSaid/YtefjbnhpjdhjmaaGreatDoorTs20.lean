/-  -/
import Derived.Test.YtefjbnhpjdhjmaaGreatDoorRd3
import Derived.BigQuiet
import Derived.Test.YtefjbnhpjdhjmaaGreatDoorTs15
import Derived.Defers
import Derived.Lib.FrozenHead2
import Derived.Test.YtefjbnhpjdhjmaaGreatDoorTs19
namespace Go.Proofs.YtefjbnhpjdhjmaaGreatDoor
set_option linter.all false
open Go.RowKit
structure aF where
 kind:Int
 text:aj
 at_:Nat
def oK (s:aj) (i:Nat):Option Nat:=(fF (s.data.toList.drop i)).map (·.2)
theorem adF {s:aj} {i:Nat} (h:s.size≤i):oK s i=none:=by unfold oK;rw [drop_end h];rfl
theorem aa1 {s:aj} {i:Nat} (h:i<s.size) (hc:s[i].toNat≠39):oK s i=(oK s (i+1)).map (· + 1):=by
 have hc':¬s[i]=39:=fun e=>hc (by rw [e];rfl)
 unfold oK
 rw [drop_cons h]
 by_cases h2:i+1<s.size
 ·rw [drop_cons h2,fF,if_neg hc']
  cases fF (s[i+1]::s.data.toList.drop (i+1+1))<;>rfl
 ·rw [drop_end (by omega)]
  have e:fF [s[i]]=none:=by rw [fF,if_neg hc']
  rw [e];rfl
theorem adG {s:aj} {i:Nat} (h:i+1<s.size) (hc:s[i].toNat=39) (hd:s[i+1].toNat=39):oK s i=(oK s (i+2)).map (· + 2):=by
 have hc':s[i]=39:=UInt8.toNat_inj.1 hc
 have hd':s[i+1]=39:=UInt8.toNat_inj.1 hd
 unfold oK
 rw [drop_cons (show i<s.size by omega),drop_cons h,fF,if_pos hc',if_pos hd']
 show ((fF (s.data.toList.drop (i+2))).map _).map _=_
 cases fF (s.data.toList.drop (i+2))<;>rfl
theorem adH {s:aj} {i:Nat} (h:i<s.size) (hc:s[i].toNat=39) (hd:¬∃h:i+1<s.size,s[i+1].toNat=39):oK s i=some 1:=by
 have hc':s[i]=39:=UInt8.toNat_inj.1 hc
 unfold oK
 rw [drop_cons h]
 by_cases h2:i+1<s.size
 ·have hd':¬s[i+1]=39:=fun e=>hd ⟨h2,by rw [e];rfl⟩
  rw [drop_cons h2,fF,if_pos hc',if_neg hd'];rfl
 ·rw [drop_end (by omega),fF,if_pos hc'];rfl
theorem ac3 {s:aj} {i n:Nat} (h:oK s i=some n):0<n∧i+n≤s.size:=by
 unfold oK at h
 cases ht:fF (s.data.toList.drop i) with
 | none=>rw [ht] at h;cases h
 | some x =>
  obtain ⟨b,m⟩:=x
  rw [ht] at h
  simp only [Option.map_some,Option.some.injEq] at h
  subst h
  have h1:=vH _ _ _ ht
  rw [List.length_drop] at h1
  have e:s.data.toList.length=s.size:=rfl
  omega
theorem extract_drop (s:aj) (a:Nat):(s.extract a s.size).data.toList=s.data.toList.drop a:=by
 have e:s.data.size=s.size:=rfl
 rw [ByteArray.data_extract,Array.toList_extract,List.extract_eq_drop_take]
 refine List.take_of_length_le ?_
 rw [List.length_drop,Array.length_toList];omega
theorem ET (s:aj) (a i:Nat):oK (s.extract a s.size) i=oK s (a+i):=by
 unfold oK;rw [extract_drop,List.drop_drop]
def DC (s:aj):Nat→Nat→Option Nat
 | 0,_=>none
 | f+1,i =>
  if h:i<s.size then
   if s[i].toNat=93 then some 1
   else if s[i].toNat=39 then
    match oK s (i+1) with
    | none=>none
    | some n=>(DC s f (i+1+n)).map (· + (n+1))
   else (DC s f (i+1)).map (· + 1)
  else none
theorem Dk {s:aj}:∀(f g i:Nat),s.size-i≤f→s.size-i≤g→DC s f i=DC s g i
 | 0,0,_,_,_=>rfl
 | 0,g+1,i,h,_=>by rw [DC,DC,dif_neg (by omega)]
 | f+1,0,i,_,h=>by rw [DC,DC,dif_neg (by omega)]
 | f+1,g+1,i,h1,h2=>by
  rw [DC,DC]
  split
  ·split
   ·rfl
   ·split
    ·cases hq:oK s (i+1) with
     | none=>rfl
     | some n=>dsimp only;rw [Dk f g _ (by omega) (by omega)]
    ·rw [Dk f g _ (by omega) (by omega)]
  ·rfl
def pK (s:aj) (i:Nat):Option Nat:=DC s (s.size-i) i
theorem Fq {s:aj} {i:Nat} (h:s.size≤i):pK s i=none:=by
 unfold pK;rw [show s.size-i=0 by omega];rfl
theorem uz {s:aj} {i:Nat} (h:i<s.size):pK s i=if s[i].toNat=93 then some 1 else if s[i].toNat=39 then (match oK s (i+1) with|none=>none|some n=>(pK s (i+1+n)).map (· + (n+1))) else (pK s (i+1)).map (· + 1):=by
 have e:s.size-i=(s.size-i-1)+1:=by omega
 unfold pK
 rw [e,DC,dif_pos h]
 split
 ·rfl
 ·split
  ·cases hq:oK s (i+1) with
   | none=>rfl
   | some n=>dsimp only;rw [Dk _ (s.size-(i+1+n)) _ (by omega) (Nat.le_refl _)]
  ·rw [Dk _ (s.size-(i+1)) _ (by omega) (Nat.le_refl _)]
theorem TT {s:aj}:∀(m i n:Nat),s.size-i≤m→pK s i=some n→0<n∧i+n≤s.size
 | m,i,n,hm,h=>by
  by_cases hi:i<s.size
  ·rw [uz hi] at h
   split at h
   ·simp only [Option.some.injEq] at h;omega
   ·cases m with
    | zero=>omega
    | succ m =>
     split at h
     ·cases hq:oK s (i+1) with
      | none=>rw [hq] at h;cases h
      | some k =>
       rw [hq] at h
       dsimp only at h
       have hk:=ac3 hq
       cases hb:pK s (i+1+k) with
       | none=>rw [hb] at h;cases h
       | some x =>
        rw [hb] at h
        simp only [Option.map_some,Option.some.injEq] at h
        have:=TT m (i+1+k) x (by omega) hb
        omega
     ·cases hb:pK s (i+1) with
      | none=>rw [hb] at h;cases h
      | some x =>
       rw [hb] at h
       simp only [Option.map_some,Option.some.injEq] at h
       have:=TT m (i+1) x (by omega) hb
       omega
  ·rw [Fq (by omega)] at h;cases h
theorem TU {s:aj} {a i:Nat} (h:a+i<s.size) (h':i<(s.extract a s.size).size):(s.extract a s.size)[i]=s[a+i]:=by
 have e1:(s.extract a s.size)[i]=(s.extract a s.size).data.toList[i]'(by simpa using h'):=by rw [Array.getElem_toList];rfl
 have e2:s[a+i]=s.data.toList[a+i]'(by simpa using h):=by rw [Array.getElem_toList];rfl
 rw [e1,e2]
 simp only [extract_drop,List.getElem_drop]
theorem uI (s:aj) (a:Nat):(s.extract a s.size).size=s.size-a:=by
 have h:=congrArg List.length (extract_drop s a)
 rw [List.length_drop] at h
 exact h
theorem Xh (s:aj) (a:Nat):∀(m i:Nat),s.size-(a+i)≤m→pK (s.extract a s.size) i=pK s (a+i):=by
 have hz:=uI s a
 intro m
 induction m with
 | zero=>intro i h;rw [Fq (by omega),Fq (by omega)]
 | succ m ih =>
  intro i h
  by_cases hi:a+i<s.size
  ·have hi':i<(s.extract a s.size).size:=by omega
   rw [uz hi,uz hi',TU hi hi',ET]
   split
   ·rfl
   ·split
    ·cases hq:oK s (a+(i+1)) with
     | none=>rfl
     | some n =>
      show (pK (s.extract a s.size) (i+1+n)).map _=(pK s (a+i+1+n)).map _
      rw [ih (i+1+n) (by omega),show a+(i+1+n)=a+i+1+n by omega]
    ·rw [ih (i+1) (by omega),show a+(i+1)=a+i+1 by omega]
  ·rw [Fq (by omega),Fq (by omega)]
def AL:List Nat:=[61,63,38,43,45,42,47,37,40,41,60,62,44,58,36]
inductive qm where
 | blank
 | tok (t:aF) (next:Nat)
 | bad (er:Er)
def dR (s:aj) (i:Nat) (h:i<s.size):qm :=
 if s[i].toNat=32 then .blank
 else if 65≤s[i].toNat∧s[i].toNat≤90 then .tok ⟨1,s.extract i (dn iK s i),i⟩ (dn iK s i)
 else if 48≤s[i].toNat∧s[i].toNat≤57 then .tok ⟨2,s.extract i (dn dL s i),i⟩ (dn dL s i)
 else if s[i].toNat=39 then
  match fF (s.data.toList.drop (i+1)) with
  | none=>.bad (2,s.size)
  | some (b,n)=>.tok ⟨3,⟨b.toArray⟩,i⟩ (i+1+n)
 else if s[i].toNat=91 then
  match pK s (i+1) with
  | none=>.bad (2,s.size)
  | some n=>.tok ⟨4,s.extract (i+1) (i+n),i⟩ (i+1+n)
 else if s[i].toNat=58∧peek s (i+1)=61 then .tok ⟨5,s.extract i (i+2),i⟩ (i+2)
 else if s[i].toNat∈AL then .tok ⟨5,s.extract i (i+1),i⟩ (i+1)
 else .bad (2,i)
def pJ (s:aj):Nat→Nat→List aF→Except Er (List aF)
 | 0,_,out=>.ok out
 | f+1,i,out =>
  if h:i<s.size then
   match dR s i h with
   | .blank=>pJ s f (i+1) out
   | .tok t k=>pJ s f k (out++[t])
   | .bad er=>.error er
  else .ok out
theorem Lc (c:UInt8):dL c=(decide (48≤c.toNat)&&decide (c.toNat≤57)):=by
 rw [Bool.eq_iff_iff];simp [dL]
theorem qB {s:aj} {i:Nat} {h:i<s.size} {t:aF} {k:Nat} (e:dR s i h=.tok t k):i<k∧k≤s.size∧t.at_=i∧t.text.size≤s.size:=by
 have hx:∀a b:Nat,(s.extract a b).size≤s.size:=by
  intro a b
  rw [ByteArray.size_extract];omega
 unfold dR at e
 split at e
 ·cases e
 split at e
 ·rename_i h1
  simp only [qm.tok.injEq] at e
  obtain ⟨rfl,rfl⟩:=e
  have hw:iK s[i]=true:=by rw [OC];simp;omega
  have h2:=Oo iK s (i+1);have h3:=Oq (f:=iK) (show i≤s.size by omega)
  rw [xk h hw] at h3⊢
  exact ⟨by omega,h3,rfl,hx _ _⟩
 split at e
 ·rename_i h1
  simp only [qm.tok.injEq] at e
  obtain ⟨rfl,rfl⟩:=e
  have hw:dL s[i]=true:=by rw [Lc];simp;omega
  have h2:=Oo dL s (i+1);have h3:=Oq (f:=dL) (show i≤s.size by omega)
  rw [xk h hw] at h3⊢
  exact ⟨by omega,h3,rfl,hx _ _⟩
 split at e
 ·cases ht:fF (s.data.toList.drop (i+1)) with
  | none=>rw [ht] at e;cases e
  | some x =>
   obtain ⟨b,n⟩:=x
   rw [ht] at e
   simp only [qm.tok.injEq] at e
   obtain ⟨rfl,rfl⟩:=e
   have h1:=vH _ _ _ ht
   rw [List.length_drop] at h1
   have e0:s.data.toList.length=s.size:=rfl
   have e1:(⟨b.toArray⟩:aj).size=b.length:=by show b.toArray.size=_;simp
   exact ⟨by omega,by omega,rfl,by rw [e1];omega⟩
 split at e
 ·cases hb:pK s (i+1) with
  | none=>rw [hb] at e;cases e
  | some n =>
   rw [hb] at e
   simp only [qm.tok.injEq] at e
   obtain ⟨rfl,rfl⟩:=e
   have:=TT _ _ _ (Nat.le_refl _) hb
   exact ⟨by omega,by omega,rfl,hx _ _⟩
 split at e
 ·rename_i h1
  simp only [qm.tok.injEq] at e
  obtain ⟨rfl,rfl⟩:=e
  have:i+1<s.size:=pq (by omega)
  exact ⟨by omega,by omega,rfl,hx _ _⟩
 split at e
 ·simp only [qm.tok.injEq] at e
  obtain ⟨rfl,rfl⟩:=e
  exact ⟨by omega,by omega,rfl,hx _ _⟩
 ·cases e
theorem yX {s:aj}:∀(f g i:Nat) (out:List aF),s.size-i≤f→s.size-i≤g→pJ s f i out=pJ s g i out
 | 0,0,_,_,_,_=>rfl
 | 0,g+1,i,out,h,_=>by rw [pJ,pJ,dif_neg (by omega)]
 | f+1,0,i,out,_,h=>by rw [pJ,pJ,dif_neg (by omega)]
 | f+1,g+1,i,out,h1,h2=>by
  rw [pJ,pJ]
  split
  ·rename_i hi
   cases hs:dR s i hi with
   | blank=>dsimp only;rw [yX f g _ _ (by omega) (by omega)]
   | tok t k=>have:=qB hs;dsimp only;rw [yX f g _ _ (by omega) (by omega)]
   | bad er=>rfl
  ·rfl
def wX (s:aj) (i:Nat) (out:List aF):Except Er (List aF):=pJ s (s.size-i) i out
theorem OT {s:aj} {i:Nat} {out:List aF} (h:s.size≤i):wX s i out=.ok out:=by
 unfold wX;rw [show s.size-i=0 by omega];rfl
theorem EH {s:aj} {i:Nat} (out:List aF) (h:i<s.size):wX s i out=match dR s i h with | .blank=>wX s (i+1) out | .tok t k=>wX s k (out++[t]) | .bad er=>.error er:=by
 have e:s.size-i=(s.size-i-1)+1:=by omega
 unfold wX
 rw [e,pJ,dif_pos h]
 cases hs:dR s i h with
 | blank=>dsimp only;rw [yX _ (s.size-(i+1)) _ _ (by omega) (Nat.le_refl _)]
 | tok t k=>have:=qB hs;dsimp only;rw [yX _ (s.size-k) _ _ (by omega) (Nat.le_refl _)]
 | bad er=>rfl
def nH (s:aj):Except Er (List aF):=if 2000<s.size then .error (4,0) else wX s 0 []
def DV (t:aF):List Value:=[.int .i64 t.kind,.string t.text,.int .i64 t.at_]
def oz (l:List aF):List Value:=l.flatMap DV
theorem Ql (a b:List aF):oz (a++b)=oz a++oz b:=by unfold oz;rw [List.flatMap_append]
theorem Zf (t:aF):oz [t]=DV t:=by simp [oz]
end Go.Proofs.YtefjbnhpjdhjmaaGreatDoor

namespace Go.Proofs.YtefjbnhpjdhjmaaGreatDoor
set_option linter.all false
open Go.RowKit
set_option maxRecDepth 100000
set_option maxHeartbeats 2000000
def MH (b:Bool) (w:World) (e:Ending) (w':World):Prop:=e=.returned (.bool b)∧w'=w
theorem iT (c:UInt8) (w:World):Calls Tryz.prog 41 #[.int .u8 c.toNat] w (MH (jO c) w):=by
 rcases (show c.toNat<65∨(65≤c.toNat∧c.toNat≤90)∨90<c.toNat by omega) with h|⟨h,h2⟩|h
 ·have fin:Hid (jO c=false):=by unfold Hid jO;simp;omega
  have d1:decide ((65:Int)≤(c.toNat:Int))=false:=au (by omega)
  have d2:decide (65≤c.toNat)=false:=au (by omega)
  clear h
  go_enter Tryz.func41, Tryz.ntmps41
  go_wp2_with fail
  go_ret
  exact ⟨by rw [fin.out];rfl,rfl⟩
 ·have fin:Hid (jO c=true):=by unfold Hid jO;simp;omega
  have d1:decide ((65:Int)≤(c.toNat:Int))=true:=ak (by omega)
  have d2:decide (65≤c.toNat)=true:=ak (by omega)
  have d3:decide ((c.toNat:Int)≤90)=true:=ak (by omega)
  have d4:decide (c.toNat≤90)=true:=ak (by omega)
  clear h h2
  go_enter Tryz.func41, Tryz.ntmps41
  go_wp2_with fail
  go_ret
  exact ⟨by rw [fin.out];rfl,rfl⟩
 ·have fin:Hid (jO c=false):=by unfold Hid jO;simp;omega
  have d1:decide ((65:Int)≤(c.toNat:Int))=true:=ak (by omega)
  have d2:decide (65≤c.toNat)=true:=ak (by omega)
  have d3:decide ((c.toNat:Int)≤90)=false:=au (by omega)
  have d4:decide (c.toNat≤90)=false:=au (by omega)
  clear h
  go_enter Tryz.func41, Tryz.ntmps41
  go_wp2_with fail
  go_ret
  exact ⟨by rw [fin.out];rfl,rfl⟩
theorem iU (c:UInt8) (w:World):Calls Tryz.prog 42 #[.int .u8 c.toNat] w (MH (dL c) w):=by
 rcases (show c.toNat<48∨(48≤c.toNat∧c.toNat≤57)∨57<c.toNat by omega) with h|⟨h,h2⟩|h
 ·have fin:Hid (dL c=false):=by unfold Hid dL;simp;omega
  have d1:decide ((48:Int)≤(c.toNat:Int))=false:=au (by omega)
  have d2:decide (48≤c.toNat)=false:=au (by omega)
  clear h
  go_enter Tryz.func42, Tryz.ntmps42
  go_wp2_with fail
  go_ret
  exact ⟨by rw [fin.out];rfl,rfl⟩
 ·have fin:Hid (dL c=true):=by unfold Hid dL;simp;omega
  have d1:decide ((48:Int)≤(c.toNat:Int))=true:=ak (by omega)
  have d2:decide (48≤c.toNat)=true:=ak (by omega)
  have d3:decide ((c.toNat:Int)≤57)=true:=ak (by omega)
  have d4:decide (c.toNat≤57)=true:=ak (by omega)
  clear h h2
  go_enter Tryz.func42, Tryz.ntmps42
  go_wp2_with fail
  go_ret
  exact ⟨by rw [fin.out];rfl,rfl⟩
 ·have fin:Hid (dL c=false):=by unfold Hid dL;simp;omega
  have d1:decide ((48:Int)≤(c.toNat:Int))=true:=ak (by omega)
  have d2:decide (48≤c.toNat)=true:=ak (by omega)
  have d3:decide ((c.toNat:Int)≤57)=false:=au (by omega)
  have d4:decide (c.toNat≤57)=false:=au (by omega)
  clear h
  go_enter Tryz.func42, Tryz.ntmps42
  go_wp2_with fail
  go_ret
  exact ⟨by rw [fin.out];rfl,rfl⟩
def qL (t:aj) (j:Nat):Nat:=match oK t j with|none=>0|some n=>j+n
theorem Zg {t:aj} {j:Nat} (h:j<t.size) (hc:t[j].toNat≠39):qL t (j+1)=qL t j:=by
 unfold qL;rw [aa1 h hc]
 cases oK t (j+1) with
 | none=>rfl
 | some n=>show j+1+n=j+(n+1);omega
theorem ac4 {t:aj} {j:Nat} (h:j+1<t.size) (hc:t[j].toNat=39) (hd:t[j+1].toNat=39):qL t (j+2)=qL t j:=by
 unfold qL;rw [adG h hc hd]
 cases oK t (j+2) with
 | none=>rfl
 | some n=>show j+2+n=j+(n+2);omega
theorem ac5 {t:aj} {j:Nat} (h:j<t.size) (hc:t[j].toNat=39) (hd:¬∃h:j+1<t.size,t[j+1].toNat=39):qL t j=j+1:=by
 unfold qL;rw [adH h hc hd]
theorem ac6 {t:aj} {j:Nat} (h:t.size≤j):qL t j=0:=by unfold qL;rw [adF h]
def yx (n:Nat) (w:World) (e:Ending) (w':World):Prop:=e=.returned (.int .i64 n)∧w'=w
theorem Jq (t:aj) (w:World) (hs:t.size≤1000000000):Calls Tryz.prog 43 #[.string t] w (yx (qL t 1) w):=by
 go_enter Tryz.func43, Tryz.ntmps43
 go_wp2_with fail
 go_loopw [3] (fun i wr=>∃j:Nat,i=.int .i64 j∧j≤t.size+1∧Hid (qL t j=qL t 1)∧wr=w) (fun i _=>t.size+1-(intOf i).toNat)
 case atStart=>exact ⟨1,rfl,by omega,rfl,by trivial⟩
 case round =>
  obtain ⟨j,rfl,hj,hq,aQ⟩:=hrel
  obtain rfl:=aQ.symm
  by_cases hlt:j<t.size
  ·have c1:decide ((j:Int)<(t.size:Int))=true:=ak (by omega)
   have c1':decide (j<t.size)=true:=ak hlt
   have cb:(j:Int)<(t.size:Int):=by omega
   by_cases hc:t[j].toNat=39
   ·have c2:((t[j].toNat:Int) != 39)=false:=by simp;omega
    obtain ⟨m1,Ri⟩:∃m1:Nat,m1=j+1:=⟨_,rfl⟩
    have agt:(j:Int)+1=(m1:Int):=by omega
    have EM:=ah Ri
    by_cases hd:∃h:j+1<t.size,t[j+1].toNat=39
    ·obtain ⟨h2,h3⟩:=hd
     have step:=ah (ac4 h2 hc h3)
     have hl1:m1<t.size:=by omega
     have h3':t[m1].toNat=39:=by simp only [Ri];exact h3
     have g3:decide ((m1:Int)<(t.size:Int))=true:=ak (by omega)
     have g3':decide (m1<t.size)=true:=ak hl1
     have g4:((t[m1].toNat:Int)==39)=true:=by simp;omega
     have bi2:(m1:Int)<(t.size:Int):=by omega
     clear hc h3 h3' Ri h2
     go_wp2_with fail
     go_roundw
     case rel=>exact ⟨j+2,by have:=EM.out;go_num,by have:=EM.out;omega,step.out.trans hq.out,by trivial⟩
     case measure=>have:=EM.out;simp [intOf];omega
    ·have fin:Hid (qL t 1=m1):=by unfold Hid;rw [←hq.out,ac5 hlt hc hd,EM.out]
     by_cases hl1:m1<t.size
     ·have g3:decide ((m1:Int)<(t.size:Int))=true:=ak (by omega)
      have g3':decide (m1<t.size)=true:=ak hl1
      have h3':t[m1].toNat≠39:=fun h=>hd ⟨by omega,by simp only [Ri] at h;exact h⟩
      have g4:((t[m1].toNat:Int)==39)=false:=by simp;omega
      have bi2:(m1:Int)<(t.size:Int):=by omega
      clear hc hd h3' Ri hq
      go_wp2_with fail
      go_ret
      exact ⟨by rw [fin.out];rfl,rfl⟩
     ·have g3:decide ((m1:Int)<(t.size:Int))=false:=au (by omega)
      have g3':decide (m1<t.size)=false:=au hl1
      clear hc hd Ri hq
      go_wp2_with fail
      go_ret
      exact ⟨by rw [fin.out];rfl,rfl⟩
   ·have c2:((t[j].toNat:Int) != 39)=true:=by simp;omega
    have step:=ah (Zg hlt hc)
    clear hc
    go_wp2_with fail
    go_roundw
    case rel=>exact ⟨j+1,by go_num,by omega,step.out.trans hq.out,by trivial⟩
    case measure=>simp [intOf];omega
  ·have c1:decide ((j:Int)<(t.size:Int))=false:=au (by omega)
   have c1':decide (j<t.size)=false:=au hlt
   have fin:Hid (qL t 1=0):=by unfold Hid;rw [←hq.out,ac6 (by omega)]
   clear hq
   go_wp2_with fail
   go_ret
   exact ⟨by rw [fin.out];rfl,rfl⟩
def bL (t:aj) (j:Nat):Nat:=match pK t j with|none=>0|some n=>j+n
theorem Zh {t:aj} {j:Nat} (h:j<t.size) (hc:t[j].toNat=93):bL t j=j+1:=by unfold bL;rw [uz h,if_pos hc]
theorem aa2 {t:aj} {j:Nat} (h:j<t.size) (hc:t[j].toNat=39) (hq:oK t (j+1)=none):bL t j=0:=by
 unfold bL;rw [uz h,if_neg (by omega),if_pos hc,hq]
theorem aa3 {t:aj} {j n:Nat} (h:j<t.size) (hc:t[j].toNat=39) (hq:oK t (j+1)=some n):bL t (j+1+n)=bL t j:=by
 unfold bL;rw [uz h,if_neg (by omega),if_pos hc,hq]
 dsimp only
 cases pK t (j+1+n) with
 | none=>rfl
 | some m=>show j+1+n+m=j+(m+(n+1));omega
theorem Zi {t:aj} {j:Nat} (h:j<t.size) (h1:t[j].toNat≠93) (h2:t[j].toNat≠39):bL t (j+1)=bL t j:=by
 unfold bL;rw [uz h,if_neg h1,if_neg h2]
 cases pK t (j+1) with
 | none=>rfl
 | some m=>show j+1+m=j+(m+1);omega
theorem ac7 {t:aj} {j:Nat} (h:t.size≤j):bL t j=0:=by unfold bL;rw [Fq h]
theorem MG (t:aj) (w:World) (hs:t.size≤1000000000):Calls Tryz.prog 45 #[.string t] w (yx (bL t 1) w):=by
 have hQ:Hid (∀(j:Nat),Calls Tryz.prog 43 #[.string (t.extract j t.size)] w (yx (qL (t.extract j t.size) 1) w)):=fun j=>Jq _ w (by rw [uI];omega)
 go_enter Tryz.func45, Tryz.ntmps45
 go_wp2_with fail
 go_loopw [3] (fun i wr=>∃j:Nat,i=.int .i64 j∧j≤t.size+1∧Hid (bL t j=bL t 1)∧wr=w) (fun i _=>t.size+1-(intOf i).toNat)
 case atStart=>exact ⟨1,rfl,by omega,rfl,by trivial⟩
 case round =>
  obtain ⟨j,rfl,hj,hq,aQ⟩:=hrel
  obtain rfl:=aQ.symm
  by_cases hlt:j<t.size
  ·have c1:decide ((j:Int)<(t.size:Int))=true:=ak (by omega)
   have c1':decide (j<t.size)=true:=ak hlt
   have cb:(j:Int)<(t.size:Int):=by omega
   by_cases hc:t[j].toNat=93
   ·have c2:((t[j].toNat:Int)==93)=true:=by simp;omega
    have fin:Hid (bL t 1=j+1):=by unfold Hid;rw [←hq.out,Zh hlt hc]
    clear hc hq
    go_wp2_with fail
    go_ret
    exact ⟨by rw [fin.out];rfl,rfl⟩
   have c2:((t[j].toNat:Int)==93)=false:=by simp;omega
   by_cases hd:t[j].toNat=39
   ·have c3:((t[j].toNat:Int)==39)=true:=by simp;omega
    have eq1:qL (t.extract j t.size) 1=match oK t (j+1) with|none=>0|some n=>n+1:=by
     unfold qL;rw [ET]
     cases oK t (j+1) with
     | none=>rfl
     | some n=>show 1+n=n+1;omega
    cases hqa:oK t (j+1) with
    | none =>
     rw [hqa] at eq1
     have fin:Hid (bL t 1=0):=by unfold Hid;rw [←hq.out,aa2 hlt hd hqa]
     have HQ:Hid (Calls Tryz.prog 43 #[.string (t.extract j t.size)] w (yx 0 w)):=by have h:=hQ.out j;rw [eq1] at h;exact h
     clear hc hd hq hqa eq1
     go_wp2_with (go_at_call 43;(refine HQ.out.mono ?_);rintro e w' ⟨rfl,aQ⟩;obtain rfl:=aQ.symm)
     go_ret
     exact ⟨by rw [fin.out];rfl,rfl⟩
    | some n =>
     rw [hqa] at eq1
     have hle:=ac3 hqa
     have step:=ah (aa3 hlt hd hqa)
     have HQ:Hid (Calls Tryz.prog 43 #[.string (t.extract j t.size)] w (yx (n+1) w)):=by have h:=hQ.out j;rw [eq1] at h;exact h
     obtain ⟨n1,Jr⟩:∃n1:Nat,n1=n+1:=⟨_,rfl⟩
     rw [←Jr] at HQ
     have EN:=ah Jr
     have HW:Hid (wrap64 (wrap64 ((j:Int)+wrap64 ((n1:Int)-1))+1)=((j+1+n:Nat):Int)):=by unfold Hid wrap64;omega
     have zn:((n1:Int)==0)=false:=by simp;omega
     clear hc hd hqa eq1 Jr
     go_wp2_with (go_at_call 43;(refine HQ.out.mono ?_);rintro e w' ⟨rfl,aQ⟩;obtain rfl:=aQ.symm)
     go_roundw
     case rel=>exact ⟨j+1+n,congrArg (Value.int .i64) HW.out,by omega,step.out.trans hq.out,by trivial⟩
     case measure=>simp only [intOf,HW.out];omega
   ·have c3:((t[j].toNat:Int)==39)=false:=by simp;omega
    have step:=ah (Zi hlt hc hd)
    clear hc hd
    go_wp2_with fail
    go_roundw
    case rel=>exact ⟨j+1,by go_num,by omega,step.out.trans hq.out,by trivial⟩
    case measure=>simp [intOf];omega
  ·have c1:decide ((j:Int)<(t.size:Int))=false:=au (by omega)
   have c1':decide (j<t.size)=false:=au hlt
   have fin:Hid (bL t 1=0):=by unfold Hid;rw [←hq.out,ac7 (by omega)]
   clear hq
   go_wp2_with fail
   go_ret
   exact ⟨by rw [fin.out];rfl,rfl⟩
end Go.Proofs.YtefjbnhpjdhjmaaGreatDoor

namespace Go.Proofs.YtefjbnhpjdhjmaaGreatDoor
set_option linter.all false
open Go.RowKit
set_option maxRecDepth 100000
set_option maxHeartbeats 2000000
theorem Ut:Go.Proofs.Lays.n240 Tryz.prog Hy:={JY with}
theorem tJ (N T:Nat) (l:List UInt8) (c:UInt8) (u:FrameMode) (w:World) (h:ni N T l w) (hl:l.length+1≤140737488355328) (hT:T≤w.heap.size) :
  CallsD Tryz.prog 67 #[.pointer (some ⟨N,0,none⟩),.int .u8 c.toNat] u w fun e u' w'=>u'=u∧Hz N T (l++[c]) .nilIface w e w':=by
 obtain ⟨i0,hi,hz0,hz1,hz2⟩:=info_parts zF.infoByte
 have hl2:(Lib.byteCells l).length+1≤140737488355328:=by rw [Lib.byteCells_length];exact hl
 refine callsD_of_wp Tryz.func67 rfl ?_
 rw [Tryz.ntmps67]
 show Code.wp _ _ _ ⟨#[.pointer (some ⟨N,0,none⟩),.int .u8 c.toNat,undef,undef,undef,undef,undef,undef,undef,undef,undef,undef,undef,undef,undef,undef,undef],[]⟩ _
 go_wp2_with (go_at_call 65;refine (Any.Builder_copyCheck_k Ut zF.toX72 T N (Lib.byteCells l) _ h).mono ?_)
 rintro e w1 ⟨rfl,h1,hb1,hk1⟩
 obtain ⟨hB,v,hbk,hown,hne⟩:=h1
 have c0:w1.cell? ⟨N,0,none⟩=some (.pointer (some ⟨N,0,none⟩)):=by rw [Lib.cell_of_heap hbk];rfl
 have c1:w1.cell? ⟨N,1,none⟩=some v:=by rw [Lib.cell_of_heap hbk];rfl
 go_wp2_with (at_builtin;refine wpList_append_ownF _ rfl _ _ 48 rfl T 5 i0 (.int .u8 0) 1 1 Tryz.underlying48 hi hz0 hz1 hz2 rfl (by decide) _ _ _ rfl (hown.alloc _) ⟨w1.heap.size,0,none⟩ 1 1 [.int .u8 c.toNat] rfl rfl ?c1 ?c2 ?c3 ?c4 ?c5 ?_)
 case c1 =>
  intro j u hj
  match j,hj with
  | 0,hj=>simp at hj;subst hj;simp [Addr.add]
 case c2=>intro u hu;simp at hu;subst hu;rfl
 case c3=>unfold maxLen;omega
 case c4=>omega
 case c5=>have:=hb1.size;simp;omega
 intro v' w2 hown' hgrow _
 have hlt:N<w1.heap.size:=(Array.getElem?_eq_some_iff.1 hbk).1
 have hb2:w2.heap[N]?=some (.cells #[.pointer (some ⟨N,0,none⟩),v] 77 (0,0)):=by
  rw [hgrow.block N (by simp;omega) (fun e=>hne e.symm),Lib.alloc_old w1 _ N hlt]
  exact hbk
 have d0:w2.cell? ⟨N,0,none⟩=some (.pointer (some ⟨N,0,none⟩)):=by rw [Lib.cell_of_heap hb2];rfl
 have d1:w2.cell? ⟨N,1,none⟩=some v:=by rw [Lib.cell_of_heap hb2];rfl
 have f1:w2.frozen? ⟨N,1,none⟩=false:=Lib.frozen_of_heap hb2 1
 obtain ⟨g,cap,rfl⟩:∃g cap,v'=.slice (some ⟨g,0,none⟩) ((Lib.byteCells l).length+1) cap:=by
  rcases hown'.2 with ⟨_,h0⟩|⟨g,cap,cur,fz,hv,_⟩
  ·omega
  ·exact ⟨g,cap,hv⟩
 go_wp2_with fail
 go_ret
 refine ⟨rfl,.inr ?_,KB.of ?_ (((hk1.alloc _).grown hgrow (Lib.ownsRowF_kind (hown.alloc _))).setCell ⟨N,1,none⟩ rfl _)⟩
 ·rw [yt];exact Lib.BuilderAtF.put (T:=77) (e:=5) hB hb2 (bs':=Lib.byteCells l++[.int .u8 c.toNat]) (by simpa using hown') zF.neB5
 ·exact ((hb1.alloc (by have:=hb1.size;omega) _).grown hgrow (by have:=hb1.size;simp;omega) (fun k hk=>(hown.lt k hk).1)).setCell (p:=⟨N,1,none⟩) hB _
end Go.Proofs.YtefjbnhpjdhjmaaGreatDoor

namespace Go.Proofs.YtefjbnhpjdhjmaaGreatDoor
set_option linter.all false
open Go.RowKit
set_option maxRecDepth 100000
def Uu:Value:=.agg #[.string ⟨#[]⟩,.int .i64 0,.int .i64 0,.string ⟨#[]⟩,.int .i64 0,.string ⟨#[]⟩,.slice none 0 0,.int .i64 0,.string ⟨#[]⟩,.int .i64 0,.string ⟨#[]⟩,.slice none 0 0,.int .i64 0,.string ⟨#[]⟩,.int .i64 0,.string ⟨#[]⟩,.slice none 0 0,.string ⟨#[]⟩,.string ⟨#[]⟩,.slice none 0 0,.slice none 0 0,.string ⟨#[]⟩,.string ⟨#[]⟩,.string ⟨#[]⟩]
theorem aam:(Tryz.prog.info? 30).map (fun i=>(i.zero,i.size,i.bytes))=some (some Uu,24,368):=by kernel_rfl
theorem xF (sa:ig) (s:aN):(aV sa s).length=24:=rfl
theorem aan (w:World) (sa:ig) (s:aN):(Instr.buildSlice 43 1 #[(0,bV sa s)]).run Tryz.prog w=.ok (.slice (some ⟨w.heap.size,0,none⟩) 1 1) (w.alloc (.cells (aV sa s).toArray 30)):=by kernel_rfl
theorem H7 {ops:Array Oper} {rest:List Oper} {o:Oper} {a:Act} {Q:Exit→Act→World→Prop} {w:World} (hgd:o.guard=none) (x:Operand) (ho:o.op=.buildSlice 43 1 #[(0,x)])
  (sa:ig) (s:aN) (hx:a.eval x=bV sa s)
  (h:∀w',dF w.heap.size sa s w'→Kept aC w w'→wpList Tryz.prog ops Q rest (a.put o.dst (.slice (some ⟨w.heap.size,0,none⟩) 1 1)) w'):wpList Tryz.prog ops Q (o::rest) a w:=by
 refine wpList_plain hgd fun K hK=>?_
 have hr:(execOp a.eval o).run Tryz.prog w=.ok (.value (.slice (some ⟨w.heap.size,0,none⟩) 1 1)) (w.alloc (.cells (aV sa s).toArray 30)):=by
  unfold execOp
  rw [ho]
  simp only [List.map_toArray,List.map_cons,List.map_nil,hx,Sem.run_bind,aan w sa s,Result.andThen_ok,Sem.run_pure]
 unfold Oper.wp
 rw [hr]
 exact hK _ _ (h _ (ay w _) ((Kept.refl aC w).alloc _))
theorem abm {w:World} {g:Nat} {sa:ig} {s:aN} (h:dF g sa s w):Src Tryz.prog 24 43 (.slice (some ⟨g,0,none⟩) 1 1) 1 (aV sa s) w:=by
 have h':w.heap[g]?=some (.cells (aV sa s).toArray 30 (0,0)):=h
 refine Src.ofSlice w Tryz.underlying43 _ _ _ _ rfl (World.news_of_block (fr:=(0,0)) h') (by intro u hu;simp [aV] at hu;rcases hu with rfl|rfl|rfl|rfl|rfl|rfl|rfl|rfl|rfl|rfl|rfl|rfl|rfl|rfl|rfl|rfl|rfl|rfl|rfl|rfl|rfl|rfl|rfl|rfl<;>rfl)
def jH (w:World) (S:Nat→Prop):List Value→List aN→Prop
 | cs,[]=>cs=[]
 | cs,s::q=>∃sa rest,cs=aV sa s++rest∧nX s∧lH w S sa s∧jH w S rest q
theorem jH.append {w:World} {S:Nat→Prop}:∀{l l':List aN} {cs cs':List Value},jH w S cs l→jH w S cs' l'→jH w S (cs++cs') (l++l')
 | [],_,cs,_,h,h'=>by rw [jH] at h;subst h;exact h'
 | p::ps,_,cs,_,h,h'=>by
  rw [jH] at h;obtain ⟨sa,r,rfl,hz,h1,h2⟩:=h
  rw [List.append_assoc,List.cons_append,jH]
  exact ⟨sa,_,rfl,hz,h1,h2.append h'⟩
theorem jH.one {w:World} {S:Nat→Prop} {sa:ig} {s:aN} (hz:nX s) (ho:lH w S sa s):jH w S (aV sa s) [s]:=by
 rw [jH];exact ⟨sa,[],(List.append_nil _).symm,hz,ho,rfl⟩
theorem jH.kept {w w':World} {S:Nat→Prop} {X:Nat→Prop}:∀{l:List aN} {cs:List Value},jH w S cs l→Kept X w w'→Safe S X w.heap.size→jH w' S cs l
 | [],_,h,_,_=>h
 | p::ps,cs,h,hk,hs=>by
  rw [jH] at h⊢;obtain ⟨sa,r,rfl,hz,h1,h2⟩:=h
  exact ⟨sa,r,rfl,hz,h1.to hk hs (fun _ h=>h),h2.kept hk hs⟩
theorem jH.at {w:World} {S S':Nat→Prop} {g:Nat} (hlt:Safe S aC w.heap.size) (hS:∀b,S b→S' b) (hg:S' g):∀{l:List aN} {cs:List Value} {o:Nat},jH w S cs l→(∀j u,cs[j]?=some u→w.cell? ⟨g,o+j,none⟩=some u)→∀i (h:i<l.length),MS w S' g (o+i*24) l[i]
 | [],_,_,_,_,i,h=>by simp at h
 | p::ps,cs,o,h,hc,i,hi=>by
  rw [jH] at h;obtain ⟨sa,r,rfl,hz,h1,h2⟩:=h
  cases i with
  | zero =>
   rw [Nat.zero_mul,Nat.add_zero]
   refine ⟨sa,hg,hz,fun j hj=>hc j _ ?_,h1.to (Kept.refl aC w) hlt hS⟩
   rw [List.getElem?_append_left (by rw [xF];exact hj),List.getElem?_eq_getElem (by rw [xF];exact hj)];rfl
  | succ i =>
   have h3:=h2.at hlt hS hg (o:=o+24) (fun j u hu=>by
    have:=hc (24+j) u (by rw [List.getElem?_append_right (by rw [xF];omega),xF,Nat.add_sub_cancel_left];exact hu)
    rw [←Nat.add_assoc] at this;exact this) i (by simpa using hi)
   rw [show o+(i+1)*24=o+24+i*24 by omega]
   simpa using h3
theorem bT.sts {w:World} {B:Nat} {S S':Nat→Prop} {v:Value} {l:List aN} {cs:List Value} (h:bT w B 30 24 v l.length cs) (hr:jH w S cs l) (hlt:Safe S aC w.heap.size) (hS:∀b,S b→S' b) (hN:∀g,v.ownBlock=some g→S' g):∃a c,v=.slice a l.length c∧ql w S' a l:=by
 rcases h.cells with ⟨rfl,h0⟩|⟨g,o,c,rfl,_,hg,_,_,hc⟩
 ·exact ⟨none,0,by rw [h0],fun h=>by omega⟩
 ·exact ⟨_,c,rfl,fun _=>⟨g,o,rfl,hr.at hlt hS (hN g rfl) fun j u hu=>(hc j u hu).1⟩⟩
end Go.Proofs.YtefjbnhpjdhjmaaGreatDoor

namespace Go.Proofs.YtefjbnhpjdhjmaaGreatDoor
set_option linter.all false
open Go.RowKit
set_option maxRecDepth 100000
set_option maxHeartbeats 4000000
def sD (k:Int):aj:=if 8≤k∧k≤13 then ⟨[gY k].toArray⟩ else ⟨#[]⟩
def xg (k:Int):Nat:=if k=7 then 5 else dw k
theorem oJ (k:Int) (w:World):Calls Tryz.prog 70 #[.int .i64 k] w fun e w'=>e=.returned (.tuple #[.string (sD k),.int .i64 (xg k:Int)])∧w'=w:=by
 by_cases h:8≤k∧k≤13
 ·obtain rfl|rfl|rfl|rfl|rfl|rfl:k=8∨k=9∨k=10∨k=11∨k=12∨k=13:=by omega
  all_goals
   go_enter Tryz.func70, Tryz.ntmps70
   go_wp2
   go_ret2
   exact ⟨rfl,rfl⟩
 ·have e1:sD k=⟨#[]⟩:=if_neg h
  have e2:xg k=5:=by
                unfold xg dw;repeat' split
                all_goals first|rfl|omega
  have z8:(k==8)=false:=by simp;omega
  have z9:(k==9)=false:=by simp;omega
  have z10:(k==10)=false:=by simp;omega
  have z11:(k==11)=false:=by simp;omega
  have z12:(k==12)=false:=by simp;omega
  have z13:(k==13)=false:=by simp;omega
  rw [e1,e2]
  clear e1 e2 h
  go_enter Tryz.func70, Tryz.ntmps70
  go_wp2
  go_ret2
  exact ⟨rfl,rfl⟩
structure sG (N T:Nat) (S:Nat→Prop) (b o:Nat) (p:aA) (l:List UInt8) (w:World):Prop where
 jd:ni N T l w
 gl:Glob w
 hw:T≤w.heap.size
 pat:dH w S b o p
 hS:∀y,S y→y<T
 hT:T≤N
 hg:0<T∧1<T
section
variable {N T:Nat} {S:Nat→Prop} {b o:Nat} {p:aA} {l l':List UInt8} {w w':World}
theorem sG.wrote (h:sG N T S b o p l w) (B:ni N T l' w') (k:KB N T w w'):sG N T S b o p l' w' :=
 ⟨B,h.gl.below (k.below h.hT h.hw) h.hg,Nat.le_trans h.hw (Kept.size k),h.pat.kept k (QM h.hS h.hT h.hw),h.hS,h.hT,h.hg⟩
theorem sG.quiet (h:sG N T S b o p l w) (k:Kept aC w w'):sG N T S b o p l w' :=
 h.wrote (h.jd.kept k) (Kept.more k fun _ h=>h.elim)
theorem sG.kid {k n:Int} {t nm:aj} {kids:List aA} (h:sG N T S b o (.mk k t n nm kids) l w) (j:Nat) (hj:j<kids.length) :
  ∃kb ko cap,w.cell? ⟨b,o+4,none⟩=some (.slice (some ⟨kb,ko,none⟩) kids.length cap)∧sG N T S kb (ko+j*5) kids[j] l w:=by
 obtain ⟨_,_,_,_,_,_,ka,cap,p4,hk⟩:=h.pat.open
 dsimp only [aA.aU] at p4 hk
 obtain ⟨kb,ko,rfl⟩:=iF hk (by omega)
 exact ⟨kb,ko,cap,p4,h.jd,h.gl,h.hw,iH kids kb ko j hj hk,h.hS,h.hT,h.hg⟩
end
theorem Sm (n:Int) (w:World) (hg:Glob w) (h0:0≤n) (h1:n≤9223372036854775807):Calls Tryz.prog 71 #[.int .i64 n,.int .i64 10] w (zI (Lib.decDigits n.toNat) w):=by
 refine (Tryz.strconv_FormatInt_10 n (by omega) (by omega) w hg.2).mono ?_
 rintro e w' ⟨rfl,k,os,rfl⟩
 refine ⟨by unfold Lib.itoa;rw [if_neg (by omega)],?_⟩
 refine ⟨rfl,rfl,rfl,?_,fun j hj _=>?_⟩
 ·show w.heap.size≤(w.heap++os).size;simp
 ·show (w.heap++os)[j]?=_;rw [Array.getElem?_append_left hj]
def oQ (N T b o i:Nat) (p:aA) (l:List UInt8) (w:World):Prop :=
 Calls Tryz.prog 38 #[.pointer (some ⟨N,0,none⟩),.pointer (some ⟨b,o,none⟩),.int .i64 i] w (Oj N T (l++aP p i) w)
def En (N T:Nat) (S:Nat→Prop) (kids:List aA):Prop :=
 ∀(j:Nat) (hj:j<kids.length) (b o i:Nat) (l:List UInt8) (w:World),sG N T S b o kids[j] l w→i≤5→l.length+(aP kids[j] i).length≤big→oQ N T b o i kids[j] l w
section
variable (N T:Nat) (S:Nat→Prop) (b o i:Nat) (t:aj) (n:Int) (nm:aj) (kids:List aA) (l:List UInt8) (w:World)
theorem YB (h:sG N T S b o (.mk 1 t n nm kids) l w) (hn:lI (.mk 1 t n nm kids)) (hi:i≤5) (hl:l.length+(aP (.mk 1 t n nm kids) i).length≤big):oQ N T b o i (.mk 1 t n nm kids) l w:=by
 obtain ⟨_,ht,_⟩:=hn.facts
 obtain ⟨_,_,p0,p1,p2,p3,ka,cap,p4,-⟩:=h.pat.open
 dsimp only [aA.aY,aA.aW,aA.dY,aA.aX,aA.aU] at p0 p1 p2 p3 p4
 unfold big at hl
 unfold oQ
 have HH:=ah h
 have e0:decide ((5:Int)<(i:Int))=false:=au (by omega)
 have hs:aP (.mk 1 t n nm kids) i=gu t:=by rw [aP,if_pos rfl]
 rw [hs] at hl⊢
 have htq:t.size≤100000:=by have:=ht rfl;omega
 have hln:Hid (l.length+(⟨(gu t).toArray⟩:aj).size≤140737488355328):=by unfold Hid;show l.length+(gu t).toArray.size≤_;rw [List.size_toArray];omega
 clear hs h hn ht
 go_enter_defers Tryz.func38, Tryz.ntmps38
 go_wp2_with (first
  | (go_at_call 70;(refine (oJ 1 w).mono ?_);rintro e w' ⟨rfl,aQ⟩;obtain rfl:=aQ.symm;simp only [sD,xg,dw])
  | (go_at_call 68;(with_reducible refine (Eo t _ HH.out.gl htq).mono ?_);(rintro e w1 ⟨rfl,K1⟩);(have h1:=ah (HH.out.quiet K1));(have iG:=ah K1);clear K1)
  | (go_at_call 31;go_loud ((refine (bM N T l _ _ h1.out.jd hln.out h1.out.hw).mono ?_);(rintro e w2 ⟨rfl,Q,K2⟩);(have KK:Hid (KB N T w w2):=KB.trans (Kept.more iG.out fun _ h=>h.elim) K2);(have Q:=ah Q);clear K2)))
 exact ⟨_,results_none rfl _ _ _,rfl,Q.out,KK.out⟩
theorem aaC (h:sG N T S b o (.mk 2 t n nm kids) l w) (hn:lI (.mk 2 t n nm kids)) (hi:i≤5) (hl:l.length+(aP (.mk 2 t n nm kids) i).length≤big):oQ N T b o i (.mk 2 t n nm kids) l w:=by
 obtain ⟨_,_,hn0,hn1,_⟩:=hn.facts
 obtain ⟨_,_,p0,p1,p2,p3,ka,cap,p4,-⟩:=h.pat.open
 dsimp only [aA.aY,aA.aW,aA.dY,aA.aX,aA.aU] at p0 p1 p2 p3 p4
 unfold big at hl
 unfold oQ
 have HH:=ah h
 have e0:decide ((5:Int)<(i:Int))=false:=au (by omega)
 have hs:aP (.mk 2 t n nm kids) i=Lib.decDigits n.toNat:=by rw [aP,if_neg (by decide),if_pos rfl]
 rw [hs] at hl⊢
 have hn2:=hn0 rfl
 have hln:Hid (l.length+(⟨(Lib.decDigits n.toNat).toArray⟩:aj).size≤140737488355328):=by unfold Hid;show l.length+(Lib.decDigits n.toNat).toArray.size≤_;rw [List.size_toArray];omega
 clear hs h hn hn0
 go_enter_defers Tryz.func38, Tryz.ntmps38
 go_wp2_with (first
  | (go_at_call 70;(refine (oJ 2 w).mono ?_);rintro e w' ⟨rfl,aQ⟩;obtain rfl:=aQ.symm;simp only [sD,xg,dw])
  | (go_at_call 71;(with_reducible refine (Sm n _ HH.out.gl hn2 hn1).mono ?_);(rintro e w1 ⟨rfl,K1⟩);(have h1:=ah (HH.out.quiet K1));(have iG:=ah K1);clear K1)
  | (go_at_call 31;(refine (bM N T l _ _ h1.out.jd hln.out h1.out.hw).mono ?_);(rintro e w2 ⟨rfl,Q,K2⟩);(have KK:Hid (KB N T w w2):=KB.trans (Kept.more iG.out fun _ h=>h.elim) K2);(have Q:=ah Q);clear K2))
 exact ⟨_,results_none rfl _ _ _,rfl,Q.out,KK.out⟩
theorem YC (h:sG N T S b o (.mk 3 t n nm kids) l w) (hn:lI (.mk 3 t n nm kids)) (hi:i≤5) (hl:l.length+(aP (.mk 3 t n nm kids) i).length≤big):oQ N T b o i (.mk 3 t n nm kids) l w:=by
 obtain ⟨_,_,p0,p1,p2,p3,ka,cap,p4,-⟩:=h.pat.open
 dsimp only [aA.aY,aA.aW,aA.dY,aA.aX,aA.aU] at p0 p1 p2 p3 p4
 unfold big at hl
 unfold oQ
 have HH:=ah h
 have e0:decide ((5:Int)<(i:Int))=false:=au (by omega)
 have hs:aP (.mk 3 t n nm kids) i=nm.data.toList:=by rw [aP,if_neg (by decide),if_neg (by decide),if_pos rfl]
 rw [hs] at hl⊢
 have hln:Hid (l.length+nm.size≤140737488355328):=by unfold Hid;have e:nm.data.toList.length=nm.size:=rfl;omega
 clear hs h hn
 go_enter_defers Tryz.func38, Tryz.ntmps38
 go_wp2_with (first
  | (go_at_call 70;(refine (oJ 3 w).mono ?_);rintro e w' ⟨rfl,aQ⟩;obtain rfl:=aQ.symm;simp only [sD,xg,dw])
  | (go_at_call 31;(refine (bM N T l _ _ HH.out.jd hln.out HH.out.hw).mono ?_);(rintro e w2 ⟨rfl,Q,K2⟩);(have KK:Hid (KB N T w w2):=K2);(have Q:=ah Q);clear K2))
 exact ⟨_,results_none rfl _ _ _,rfl,Q.out,KK.out⟩
end
end Go.Proofs.YtefjbnhpjdhjmaaGreatDoor
