/-  -/
import Derived.Test.YtodebjhalipefaaGreatDoorLq20
import Derived.BigQuiet
import Derived.Test.YtodebjhalipefaaGreatDoorRows
import Derived.Test.YtodebjhalipefaaGreatDoorLq1
import Derived.Deep.Slices
import Derived.ProofKit
import Derived.OpenShut
namespace Go.Proofs.YtodebjhalipefaaGreatDoor
set_option linter.all false
open Go.RowKit
structure aC where
 kind:Int
 text:aj
 at_:Nat
def kK (s:aj) (i:Nat):Option Nat:=(dM (s.data.toList.drop i)).map (·.2)
theorem ag4 {s:aj} {i:Nat} (h:s.size≤i):kK s i=none:=by unfold kK;rw [drop_end h];rfl
theorem adK {s:aj} {i:Nat} (h:i<s.size) (hc:s[i].toNat≠39):kK s i=(kK s (i+1)).map (· + 1):=by
 have hc':¬s[i]=39:=fun e=>hc (by rw [e];rfl)
 unfold kK
 rw [drop_cons h]
 by_cases h2:i+1<s.size
 ·rw [drop_cons h2,dM,if_neg hc']
  cases dM (s[i+1]::s.data.toList.drop (i+1+1))<;>rfl
 ·rw [drop_end (by omega)]
  have e:dM [s[i]]=none:=by rw [dM,if_neg hc']
  rw [e];rfl
theorem ag5 {s:aj} {i:Nat} (h:i+1<s.size) (hc:s[i].toNat=39) (hd:s[i+1].toNat=39):kK s i=(kK s (i+2)).map (· + 2):=by
 have hc':s[i]=39:=UInt8.toNat_inj.1 hc
 have hd':s[i+1]=39:=UInt8.toNat_inj.1 hd
 unfold kK
 rw [drop_cons (show i<s.size by omega),drop_cons h,dM,if_pos hc',if_pos hd']
 show ((dM (s.data.toList.drop (i+2))).map _).map _=_
 cases dM (s.data.toList.drop (i+2))<;>rfl
theorem ag6 {s:aj} {i:Nat} (h:i<s.size) (hc:s[i].toNat=39) (hd:¬∃h:i+1<s.size,s[i+1].toNat=39):kK s i=some 1:=by
 have hc':s[i]=39:=UInt8.toNat_inj.1 hc
 unfold kK
 rw [drop_cons h]
 by_cases h2:i+1<s.size
 ·have hd':¬s[i+1]=39:=fun e=>hd ⟨h2,by rw [e];rfl⟩
  rw [drop_cons h2,dM,if_pos hc',if_neg hd'];rfl
 ·rw [drop_end (by omega),dM,if_pos hc'];rfl
theorem agn {s:aj} {i n:Nat} (h:kK s i=some n):0<n∧i+n≤s.size:=by
 unfold kK at h
 cases ht:dM (s.data.toList.drop i) with
 | none=>rw [ht] at h;cases h
 | some x =>
  obtain ⟨b,m⟩:=x
  rw [ht] at h
  simp only [Option.map_some,Option.some.injEq] at h
  subst h
  have h1:=uO _ _ _ ht
  rw [List.length_drop] at h1
  have e:s.data.toList.length=s.size:=rfl
  omega
theorem extract_drop (s:aj) (a:Nat):(s.extract a s.size).data.toList=s.data.toList.drop a:=by
 have e:s.data.size=s.size:=rfl
 rw [ByteArray.data_extract,Array.toList_extract,List.extract_eq_drop_take]
 refine List.take_of_length_le ?_
 rw [List.length_drop,Array.length_toList];omega
theorem DW (s:aj) (a i:Nat):kK (s.extract a s.size) i=kK s (a+i):=by
 unfold kK;rw [extract_drop,List.drop_drop]
def BI (s:aj):Nat→Nat→Option Nat
 | 0,_=>none
 | f+1,i =>
  if h:i<s.size then
   if s[i].toNat=93 then some 1
   else if s[i].toNat=39 then
    match kK s (i+1) with
    | none=>none
    | some n=>(BI s f (i+1+n)).map (· + (n+1))
   else (BI s f (i+1)).map (· + 1)
  else none
theorem Bh {s:aj}:∀(f g i:Nat),s.size-i≤f→s.size-i≤g→BI s f i=BI s g i
 | 0,0,_,_,_=>rfl
 | 0,g+1,i,h,_=>by rw [BI,BI,dif_neg (by omega)]
 | f+1,0,i,_,h=>by rw [BI,BI,dif_neg (by omega)]
 | f+1,g+1,i,h1,h2=>by
  rw [BI,BI]
  split
  ·split
   ·rfl
   ·split
    ·cases hq:kK s (i+1) with
     | none=>rfl
     | some n=>dsimp only;rw [Bh f g _ (by omega) (by omega)]
    ·rw [Bh f g _ (by omega) (by omega)]
  ·rfl
def qM (s:aj) (i:Nat):Option Nat:=BI s (s.size-i) i
theorem Ef {s:aj} {i:Nat} (h:s.size≤i):qM s i=none:=by
 unfold qM;rw [show s.size-i=0 by omega];rfl
theorem xM {s:aj} {i:Nat} (h:i<s.size):qM s i=if s[i].toNat=93 then some 1 else if s[i].toNat=39 then (match kK s (i+1) with|none=>none|some n=>(qM s (i+1+n)).map (· + (n+1))) else (qM s (i+1)).map (· + 1):=by
 have e:s.size-i=(s.size-i-1)+1:=by omega
 unfold qM
 rw [e,BI,dif_pos h]
 split
 ·rfl
 ·split
  ·cases hq:kK s (i+1) with
   | none=>rfl
   | some n=>dsimp only;rw [Bh _ (s.size-(i+1+n)) _ (by omega) (Nat.le_refl _)]
  ·rw [Bh _ (s.size-(i+1)) _ (by omega) (Nat.le_refl _)]
theorem VF {s:aj}:∀(m i n:Nat),s.size-i≤m→qM s i=some n→0<n∧i+n≤s.size
 | m,i,n,hm,h=>by
  by_cases hi:i<s.size
  ·rw [xM hi] at h
   split at h
   ·simp only [Option.some.injEq] at h;omega
   ·cases m with
    | zero=>omega
    | succ m =>
     split at h
     ·cases hq:kK s (i+1) with
      | none=>rw [hq] at h;cases h
      | some k =>
       rw [hq] at h
       dsimp only at h
       have hk:=agn hq
       cases hb:qM s (i+1+k) with
       | none=>rw [hb] at h;cases h
       | some x =>
        rw [hb] at h
        simp only [Option.map_some,Option.some.injEq] at h
        have:=VF m (i+1+k) x (by omega) hb
        omega
     ·cases hb:qM s (i+1) with
      | none=>rw [hb] at h;cases h
      | some x =>
       rw [hb] at h
       simp only [Option.map_some,Option.some.injEq] at h
       have:=VF m (i+1) x (by omega) hb
       omega
  ·rw [Ef (by omega)] at h;cases h
theorem VG {s:aj} {a i:Nat} (h:a+i<s.size) (h':i<(s.extract a s.size).size):(s.extract a s.size)[i]=s[a+i]:=by
 have e1:(s.extract a s.size)[i]=(s.extract a s.size).data.toList[i]'(by simpa using h'):=by rw [Array.getElem_toList];rfl
 have e2:s[a+i]=s.data.toList[a+i]'(by simpa using h):=by rw [Array.getElem_toList];rfl
 rw [e1,e2]
 simp only [extract_drop,List.getElem_drop]
theorem qU (s:aj) (a:Nat):(s.extract a s.size).size=s.size-a:=by
 have h:=congrArg List.length (extract_drop s a)
 rw [List.length_drop] at h
 exact h
theorem Zt (s:aj) (a:Nat):∀(m i:Nat),s.size-(a+i)≤m→qM (s.extract a s.size) i=qM s (a+i):=by
 have hz:=qU s a
 intro m
 induction m with
 | zero=>intro i h;rw [Ef (by omega),Ef (by omega)]
 | succ m ih =>
  intro i h
  by_cases hi:a+i<s.size
  ·have hi':i<(s.extract a s.size).size:=by omega
   rw [xM hi,xM hi',VG hi hi',DW]
   split
   ·rfl
   ·split
    ·cases hq:kK s (a+(i+1)) with
     | none=>rfl
     | some n =>
      show (qM (s.extract a s.size) (i+1+n)).map _=(qM s (a+i+1+n)).map _
      rw [ih (i+1+n) (by omega),show a+(i+1+n)=a+i+1+n by omega]
    ·rw [ih (i+1) (by omega),show a+(i+1)=a+i+1 by omega]
  ·rw [Ef (by omega),Ef (by omega)]
def VH:List Nat:=[61,63,38,43,45,42,47,37,40,41,60,62,44,58,36]
inductive jM where
 | blank
 | tok (t:aC) (next:Nat)
 | bad (er:Er)
def cO (s:aj) (i:Nat) (h:i<s.size):jM :=
 if s[i].toNat=32 then .blank
 else if 65≤s[i].toNat∧s[i].toNat≤90 then .tok ⟨1,s.extract i (dF qJ s i),i⟩ (dF qJ s i)
 else if 48≤s[i].toNat∧s[i].toNat≤57 then .tok ⟨2,s.extract i (dF cu s i),i⟩ (dF cu s i)
 else if s[i].toNat=39 then
  match dM (s.data.toList.drop (i+1)) with
  | none=>.bad (2,s.size)
  | some (b,n)=>.tok ⟨3,⟨b.toArray⟩,i⟩ (i+1+n)
 else if s[i].toNat=91 then
  match qM s (i+1) with
  | none=>.bad (2,s.size)
  | some n=>.tok ⟨4,s.extract (i+1) (i+n),i⟩ (i+1+n)
 else if s[i].toNat=58∧peek s (i+1)=61 then .tok ⟨5,s.extract i (i+2),i⟩ (i+2)
 else if s[i].toNat∈VH then .tok ⟨5,s.extract i (i+1),i⟩ (i+1)
 else .bad (2,i)
def lC (s:aj):Nat→Nat→List aC→Except Er (List aC)
 | 0,_,out=>.ok out
 | f+1,i,out =>
  if h:i<s.size then
   match cO s i h with
   | .blank=>lC s f (i+1) out
   | .tok t k=>lC s f k (out++[t])
   | .bad er=>.error er
  else .ok out
theorem Lh (c:UInt8):cu c=(decide (48≤c.toNat)&&decide (c.toNat≤57)):=by
 rw [Bool.eq_iff_iff];simp [cu]
theorem lX {s:aj} {i:Nat} {h:i<s.size} {t:aC} {k:Nat} (e:cO s i h=.tok t k):i<k∧k≤s.size∧t.at_=i∧t.text.size≤s.size:=by
 have hx:∀a b:Nat,(s.extract a b).size≤s.size:=by
  intro a b
  rw [ByteArray.size_extract];omega
 unfold cO at e
 split at e
 ·cases e
 split at e
 ·rename_i h1
  simp only [jM.tok.injEq] at e
  obtain ⟨rfl,rfl⟩:=e
  have hw:qJ s[i]=true:=by rw [agc];simp;omega
  have h2:=Zd qJ s (i+1);have h3:=Ze (f:=qJ) (show i≤s.size by omega)
  rw [zT h hw] at h3⊢
  exact ⟨by omega,h3,rfl,hx _ _⟩
 split at e
 ·rename_i h1
  simp only [jM.tok.injEq] at e
  obtain ⟨rfl,rfl⟩:=e
  have hw:cu s[i]=true:=by rw [Lh];simp;omega
  have h2:=Zd cu s (i+1);have h3:=Ze (f:=cu) (show i≤s.size by omega)
  rw [zT h hw] at h3⊢
  exact ⟨by omega,h3,rfl,hx _ _⟩
 split at e
 ·cases ht:dM (s.data.toList.drop (i+1)) with
  | none=>rw [ht] at e;cases e
  | some x =>
   obtain ⟨b,n⟩:=x
   rw [ht] at e
   simp only [jM.tok.injEq] at e
   obtain ⟨rfl,rfl⟩:=e
   have h1:=uO _ _ _ ht
   rw [List.length_drop] at h1
   have e0:s.data.toList.length=s.size:=rfl
   have e1:(⟨b.toArray⟩:aj).size=b.length:=by show b.toArray.size=_;simp
   exact ⟨by omega,by omega,rfl,by rw [e1];omega⟩
 split at e
 ·cases hb:qM s (i+1) with
  | none=>rw [hb] at e;cases e
  | some n =>
   rw [hb] at e
   simp only [jM.tok.injEq] at e
   obtain ⟨rfl,rfl⟩:=e
   have:=VF _ _ _ (Nat.le_refl _) hb
   exact ⟨by omega,by omega,rfl,hx _ _⟩
 split at e
 ·rename_i h1
  simp only [jM.tok.injEq] at e
  obtain ⟨rfl,rfl⟩:=e
  have:i+1<s.size:=JG (by omega)
  exact ⟨by omega,by omega,rfl,hx _ _⟩
 split at e
 ·simp only [jM.tok.injEq] at e
  obtain ⟨rfl,rfl⟩:=e
  exact ⟨by omega,by omega,rfl,hx _ _⟩
 ·cases e
theorem wP {s:aj}:∀(f g i:Nat) (out:List aC),s.size-i≤f→s.size-i≤g→lC s f i out=lC s g i out
 | 0,0,_,_,_,_=>rfl
 | 0,g+1,i,out,h,_=>by rw [lC,lC,dif_neg (by omega)]
 | f+1,0,i,out,_,h=>by rw [lC,lC,dif_neg (by omega)]
 | f+1,g+1,i,out,h1,h2=>by
  rw [lC,lC]
  split
  ·rename_i hi
   cases hs:cO s i hi with
   | blank=>dsimp only;rw [wP f g _ _ (by omega) (by omega)]
   | tok t k=>have:=lX hs;dsimp only;rw [wP f g _ _ (by omega) (by omega)]
   | bad er=>rfl
  ·rfl
def vS (s:aj) (i:Nat) (out:List aC):Except Er (List aC):=lC s (s.size-i) i out
theorem abB {s:aj} {i:Nat} {out:List aC} (h:s.size≤i):vS s i out=.ok out:=by
 unfold vS;rw [show s.size-i=0 by omega];rfl
theorem Zu {s:aj} {i:Nat} (out:List aC) (h:i<s.size):vS s i out=match cO s i h with | .blank=>vS s (i+1) out | .tok t k=>vS s k (out++[t]) | .bad er=>.error er:=by
 have e:s.size-i=(s.size-i-1)+1:=by omega
 unfold vS
 rw [e,lC,dif_pos h]
 cases hs:cO s i h with
 | blank=>dsimp only;rw [wP _ (s.size-(i+1)) _ _ (by omega) (Nat.le_refl _)]
 | tok t k=>have:=lX hs;dsimp only;rw [wP _ (s.size-k) _ _ (by omega) (Nat.le_refl _)]
 | bad er=>rfl
def jO (s:aj):Except Er (List aC):=if 2000<s.size then .error (4,0) else vS s 0 []
def Dq (t:aC):List Value:=[.int .i64 t.kind,.string t.text,.int .i64 t.at_]
def jK (l:List aC):List Value:=l.flatMap Dq
theorem QU (a b:List aC):jK (a++b)=jK a++jK b:=by unfold jK;rw [List.flatMap_append]
theorem abC (t:aC):jK [t]=Dq t:=by simp [jK]
end Go.Proofs.YtodebjhalipefaaGreatDoor

namespace Go.Proofs.YtodebjhalipefaaGreatDoor
set_option linter.all false
open Go.RowKit
set_option maxRecDepth 100000
set_option maxHeartbeats 2000000
def LZ (b:Bool) (w:World) (e:Ending) (w':World):Prop:=e=.returned (.bool b)∧w'=w
theorem fD (c:UInt8) (w:World):Calls Tryz.prog 58 #[.int .u8 c.toNat] w (LZ (iZ c) w):=by
 rcases (show c.toNat<65∨(65≤c.toNat∧c.toNat≤90)∨90<c.toNat by omega) with h|⟨h,h2⟩|h
 ·have fin:Hid (iZ c=false):=by unfold Hid iZ;simp;omega
  have d1:decide ((65:Int)≤(c.toNat:Int))=false:=au (by omega)
  have d2:decide (65≤c.toNat)=false:=au (by omega)
  clear h
  go_enter Tryz.func58, Tryz.ntmps58
  go_wp2_with fail
  go_ret
  exact ⟨by rw [fin.out];rfl,rfl⟩
 ·have fin:Hid (iZ c=true):=by unfold Hid iZ;simp;omega
  have d1:decide ((65:Int)≤(c.toNat:Int))=true:=ak (by omega)
  have d2:decide (65≤c.toNat)=true:=ak (by omega)
  have d3:decide ((c.toNat:Int)≤90)=true:=ak (by omega)
  have d4:decide (c.toNat≤90)=true:=ak (by omega)
  clear h h2
  go_enter Tryz.func58, Tryz.ntmps58
  go_wp2_with fail
  go_ret
  exact ⟨by rw [fin.out];rfl,rfl⟩
 ·have fin:Hid (iZ c=false):=by unfold Hid iZ;simp;omega
  have d1:decide ((65:Int)≤(c.toNat:Int))=true:=ak (by omega)
  have d2:decide (65≤c.toNat)=true:=ak (by omega)
  have d3:decide ((c.toNat:Int)≤90)=false:=au (by omega)
  have d4:decide (c.toNat≤90)=false:=au (by omega)
  clear h
  go_enter Tryz.func58, Tryz.ntmps58
  go_wp2_with fail
  go_ret
  exact ⟨by rw [fin.out];rfl,rfl⟩
theorem fF (c:UInt8) (w:World):Calls Tryz.prog 59 #[.int .u8 c.toNat] w (LZ (cu c) w):=by
 rcases (show c.toNat<48∨(48≤c.toNat∧c.toNat≤57)∨57<c.toNat by omega) with h|⟨h,h2⟩|h
 ·have fin:Hid (cu c=false):=by unfold Hid cu;simp;omega
  have d1:decide ((48:Int)≤(c.toNat:Int))=false:=au (by omega)
  have d2:decide (48≤c.toNat)=false:=au (by omega)
  clear h
  go_enter Tryz.func59, Tryz.ntmps59
  go_wp2_with fail
  go_ret
  exact ⟨by rw [fin.out];rfl,rfl⟩
 ·have fin:Hid (cu c=true):=by unfold Hid cu;simp;omega
  have d1:decide ((48:Int)≤(c.toNat:Int))=true:=ak (by omega)
  have d2:decide (48≤c.toNat)=true:=ak (by omega)
  have d3:decide ((c.toNat:Int)≤57)=true:=ak (by omega)
  have d4:decide (c.toNat≤57)=true:=ak (by omega)
  clear h h2
  go_enter Tryz.func59, Tryz.ntmps59
  go_wp2_with fail
  go_ret
  exact ⟨by rw [fin.out];rfl,rfl⟩
 ·have fin:Hid (cu c=false):=by unfold Hid cu;simp;omega
  have d1:decide ((48:Int)≤(c.toNat:Int))=true:=ak (by omega)
  have d2:decide (48≤c.toNat)=true:=ak (by omega)
  have d3:decide ((c.toNat:Int)≤57)=false:=au (by omega)
  have d4:decide (c.toNat≤57)=false:=au (by omega)
  clear h
  go_enter Tryz.func59, Tryz.ntmps59
  go_wp2_with fail
  go_ret
  exact ⟨by rw [fin.out];rfl,rfl⟩
def qL (t:aj) (j:Nat):Nat:=match kK t j with|none=>0|some n=>j+n
theorem abD {t:aj} {j:Nat} (h:j<t.size) (hc:t[j].toNat≠39):qL t (j+1)=qL t j:=by
 unfold qL;rw [adK h hc]
 cases kK t (j+1) with
 | none=>rfl
 | some n=>show j+1+n=j+(n+1);omega
theorem agp {t:aj} {j:Nat} (h:j+1<t.size) (hc:t[j].toNat=39) (hd:t[j+1].toNat=39):qL t (j+2)=qL t j:=by
 unfold qL;rw [ag5 h hc hd]
 cases kK t (j+2) with
 | none=>rfl
 | some n=>show j+2+n=j+(n+2);omega
theorem agq {t:aj} {j:Nat} (h:j<t.size) (hc:t[j].toNat=39) (hd:¬∃h:j+1<t.size,t[j+1].toNat=39):qL t j=j+1:=by
 unfold qL;rw [ag6 h hc hd]
theorem agr {t:aj} {j:Nat} (h:t.size≤j):qL t j=0:=by unfold qL;rw [ag4 h]
def vP (n:Nat) (w:World) (e:Ending) (w':World):Prop:=e=.returned (.int .i64 n)∧w'=w
theorem Iz (t:aj) (w:World) (hs:t.size≤1000000000):Calls Tryz.prog 60 #[.string t] w (vP (qL t 1) w):=by
 go_enter Tryz.func60, Tryz.ntmps60
 go_wp2_with fail
 go_loopw [3] (fun i wr=>∃j:Nat,i=.int .i64 j∧j≤t.size+1∧Hid (qL t j=qL t 1)∧wr=w) (fun i _=>t.size+1-(intOf i).toNat)
 case atStart=>exact ⟨1,rfl,by omega,rfl,by trivial⟩
 case round =>
  obtain ⟨j,rfl,hj,hq,aH⟩:=hrel
  obtain rfl:=aH.symm
  by_cases hlt:j<t.size
  ·have c1:decide ((j:Int)<(t.size:Int))=true:=ak (by omega)
   have c1':decide (j<t.size)=true:=ak hlt
   have cb:(j:Int)<(t.size:Int):=by omega
   by_cases hc:t[j].toNat=39
   ·have c2:((t[j].toNat:Int) != 39)=false:=by simp;omega
    obtain ⟨m1,Tq⟩:∃m1:Nat,m1=j+1:=⟨_,rfl⟩
    have ak9:(j:Int)+1=(m1:Int):=by omega
    have EM:=ah Tq
    by_cases hd:∃h:j+1<t.size,t[j+1].toNat=39
    ·obtain ⟨h2,h3⟩:=hd
     have step:=ah (agp h2 hc h3)
     have hl1:m1<t.size:=by omega
     have h3':t[m1].toNat=39:=by simp only [Tq];exact h3
     have g3:decide ((m1:Int)<(t.size:Int))=true:=ak (by omega)
     have g3':decide (m1<t.size)=true:=ak hl1
     have g4:((t[m1].toNat:Int)==39)=true:=by simp;omega
     have bi2:(m1:Int)<(t.size:Int):=by omega
     clear hc h3 h3' Tq h2
     go_wp2_with fail
     go_roundw
     case rel=>exact ⟨j+2,by have:=EM.out;go_num,by have:=EM.out;omega,step.out.trans hq.out,by trivial⟩
     case measure=>have:=EM.out;simp [intOf];omega
    ·have fin:Hid (qL t 1=m1):=by unfold Hid;rw [←hq.out,agq hlt hc hd,EM.out]
     by_cases hl1:m1<t.size
     ·have g3:decide ((m1:Int)<(t.size:Int))=true:=ak (by omega)
      have g3':decide (m1<t.size)=true:=ak hl1
      have h3':t[m1].toNat≠39:=fun h=>hd ⟨by omega,by simp only [Tq] at h;exact h⟩
      have g4:((t[m1].toNat:Int)==39)=false:=by simp;omega
      have bi2:(m1:Int)<(t.size:Int):=by omega
      clear hc hd h3' Tq hq
      go_wp2_with fail
      go_ret
      exact ⟨by rw [fin.out];rfl,rfl⟩
     ·have g3:decide ((m1:Int)<(t.size:Int))=false:=au (by omega)
      have g3':decide (m1<t.size)=false:=au hl1
      clear hc hd Tq hq
      go_wp2_with fail
      go_ret
      exact ⟨by rw [fin.out];rfl,rfl⟩
   ·have c2:((t[j].toNat:Int) != 39)=true:=by simp;omega
    have step:=ah (abD hlt hc)
    clear hc
    go_wp2_with fail
    go_roundw
    case rel=>exact ⟨j+1,by go_num,by omega,step.out.trans hq.out,by trivial⟩
    case measure=>simp [intOf];omega
  ·have c1:decide ((j:Int)<(t.size:Int))=false:=au (by omega)
   have c1':decide (j<t.size)=false:=au hlt
   have fin:Hid (qL t 1=0):=by unfold Hid;rw [←hq.out,agr (by omega)]
   clear hq
   go_wp2_with fail
   go_ret
   exact ⟨by rw [fin.out];rfl,rfl⟩
def bL (t:aj) (j:Nat):Nat:=match qM t j with|none=>0|some n=>j+n
theorem abE {t:aj} {j:Nat} (h:j<t.size) (hc:t[j].toNat=93):bL t j=j+1:=by unfold bL;rw [xM h,if_pos hc]
theorem adL {t:aj} {j:Nat} (h:j<t.size) (hc:t[j].toNat=39) (hq:kK t (j+1)=none):bL t j=0:=by
 unfold bL;rw [xM h,if_neg (by omega),if_pos hc,hq]
theorem adM {t:aj} {j n:Nat} (h:j<t.size) (hc:t[j].toNat=39) (hq:kK t (j+1)=some n):bL t (j+1+n)=bL t j:=by
 unfold bL;rw [xM h,if_neg (by omega),if_pos hc,hq]
 dsimp only
 cases qM t (j+1+n) with
 | none=>rfl
 | some m=>show j+1+n+m=j+(m+(n+1));omega
theorem abG {t:aj} {j:Nat} (h:j<t.size) (h1:t[j].toNat≠93) (h2:t[j].toNat≠39):bL t (j+1)=bL t j:=by
 unfold bL;rw [xM h,if_neg h1,if_neg h2]
 cases qM t (j+1) with
 | none=>rfl
 | some m=>show j+1+m=j+(m+1);omega
theorem ags {t:aj} {j:Nat} (h:t.size≤j):bL t j=0:=by unfold bL;rw [Ef h]
theorem LP (t:aj) (w:World) (hs:t.size≤1000000000):Calls Tryz.prog 62 #[.string t] w (vP (bL t 1) w):=by
 have hQ:Hid (∀(j:Nat),Calls Tryz.prog 60 #[.string (t.extract j t.size)] w (vP (qL (t.extract j t.size) 1) w)):=fun j=>Iz _ w (by rw [qU];omega)
 go_enter Tryz.func62, Tryz.ntmps62
 go_wp2_with fail
 go_loopw [3] (fun i wr=>∃j:Nat,i=.int .i64 j∧j≤t.size+1∧Hid (bL t j=bL t 1)∧wr=w) (fun i _=>t.size+1-(intOf i).toNat)
 case atStart=>exact ⟨1,rfl,by omega,rfl,by trivial⟩
 case round =>
  obtain ⟨j,rfl,hj,hq,aH⟩:=hrel
  obtain rfl:=aH.symm
  by_cases hlt:j<t.size
  ·have c1:decide ((j:Int)<(t.size:Int))=true:=ak (by omega)
   have c1':decide (j<t.size)=true:=ak hlt
   have cb:(j:Int)<(t.size:Int):=by omega
   by_cases hc:t[j].toNat=93
   ·have c2:((t[j].toNat:Int)==93)=true:=by simp;omega
    have fin:Hid (bL t 1=j+1):=by unfold Hid;rw [←hq.out,abE hlt hc]
    clear hc hq
    go_wp2_with fail
    go_ret
    exact ⟨by rw [fin.out];rfl,rfl⟩
   have c2:((t[j].toNat:Int)==93)=false:=by simp;omega
   by_cases hd:t[j].toNat=39
   ·have c3:((t[j].toNat:Int)==39)=true:=by simp;omega
    have eq1:qL (t.extract j t.size) 1=match kK t (j+1) with|none=>0|some n=>n+1:=by
     unfold qL;rw [DW]
     cases kK t (j+1) with
     | none=>rfl
     | some n=>show 1+n=n+1;omega
    cases hqa:kK t (j+1) with
    | none =>
     rw [hqa] at eq1
     have fin:Hid (bL t 1=0):=by unfold Hid;rw [←hq.out,adL hlt hd hqa]
     have HQ:Hid (Calls Tryz.prog 60 #[.string (t.extract j t.size)] w (vP 0 w)):=by have h:=hQ.out j;rw [eq1] at h;exact h
     clear hc hd hq hqa eq1
     go_wp2_with (go_at_call 60;(refine HQ.out.mono ?_);rintro e w' ⟨rfl,aH⟩;obtain rfl:=aH.symm)
     go_ret
     exact ⟨by rw [fin.out];rfl,rfl⟩
    | some n =>
     rw [hqa] at eq1
     have hle:=agn hqa
     have step:=ah (adM hlt hd hqa)
     have HQ:Hid (Calls Tryz.prog 60 #[.string (t.extract j t.size)] w (vP (n+1) w)):=by have h:=hQ.out j;rw [eq1] at h;exact h
     obtain ⟨n1,IE⟩:∃n1:Nat,n1=n+1:=⟨_,rfl⟩
     rw [←IE] at HQ
     have EN:=ah IE
     have HW:Hid (wrap64 (wrap64 ((j:Int)+wrap64 ((n1:Int)-1))+1)=((j+1+n:Nat):Int)):=by unfold Hid wrap64;omega
     have zn:((n1:Int)==0)=false:=by simp;omega
     clear hc hd hqa eq1 IE
     go_wp2_with (go_at_call 60;(refine HQ.out.mono ?_);rintro e w' ⟨rfl,aH⟩;obtain rfl:=aH.symm)
     go_roundw
     case rel=>exact ⟨j+1+n,congrArg (Value.int .i64) HW.out,by omega,step.out.trans hq.out,by trivial⟩
     case measure=>simp only [intOf,HW.out];omega
   ·have c3:((t[j].toNat:Int)==39)=false:=by simp;omega
    have step:=ah (abG hlt hc hd)
    clear hc hd
    go_wp2_with fail
    go_roundw
    case rel=>exact ⟨j+1,by go_num,by omega,step.out.trans hq.out,by trivial⟩
    case measure=>simp [intOf];omega
  ·have c1:decide ((j:Int)<(t.size:Int))=false:=au (by omega)
   have c1':decide (j<t.size)=false:=au hlt
   have fin:Hid (bL t 1=0):=by unfold Hid;rw [←hq.out,ags (by omega)]
   clear hq
   go_wp2_with fail
   go_ret
   exact ⟨by rw [fin.out];rfl,rfl⟩
end Go.Proofs.YtodebjhalipefaaGreatDoor

namespace Go.Proofs.YtodebjhalipefaaGreatDoor
set_option linter.all false
open Go.RowKit Go.Deep
theorem QN {H:Type} (d:DataW H):1≤Rows.uptoBulk d:=by
 cases d with
 | lit l=>cases l<;>simp [Rows.uptoBulk]
 | nil=>simp [Rows.uptoBulk]
 | ptr d=>simp [Rows.uptoBulk]
 | slice elems spare=>simp [Rows.uptoBulk]
 | agg parts=>simp [Rows.uptoBulk]
 | iface t d=>simp [Rows.uptoBulk]
 | map entries=>simp [Rows.uptoBulk]
 | held h=>simp [Rows.uptoBulk]
theorem QM {H:Type} (s:aj):Rows.uptoBulk (DataW.lit (H:=H) (.string s.data.toList))=s.size+1:=by
 simp only [Rows.uptoBulk];rfl
theorem zS {H:Type}:∀(l:List (DataW H)),l.length≤Rows.uptoBulkAll l
 | []=>by simp [Rows.uptoBulkAll]
 | x::r=>by have:=QN x;have:=zS r;simp only [Rows.uptoBulkAll,List.length_cons];omega
section
variable {H:Type} {enc:TypeId×Value→H} {w:World} {spare:Nat→Bool} {held:Bool}
theorem cells_lt {a:Addr} {v:Value} (h:w.cell? a=some v):a.block<w.heap.size:=by
 unfold World.cell? at h
 cases hb:w.heap[a.block]? with
 | none=>rw [hb] at h;simp at h
 | some o=>exact (Array.getElem?_eq_some_iff.1 hb).1
theorem Ik (f:Nat→Nat):∀(l:List Nat) (i:Nat),i∈l→f i≤(l.map f).sum
 | [],i,h=>by simp at h
 | j::r,i,h=>by
  rw [List.map_cons,List.sum_cons]
  rcases List.mem_cons.1 h with rfl|h
  ·omega
  ·have:=Ik f r i h;omega
theorem P6 (D:Nat→DataW H):∀(l:List Nat),(l.map fun i=>Rows.uptoBulk (D i)).sum=Rows.uptoBulkAll (l.map D)
 | []=>by simp [Rows.uptoBulkAll]
 | i::r=>by simp only [List.map_cons,List.sum_cons,Rows.uptoBulkAll,P6 D r]
end
end Go.Proofs.YtodebjhalipefaaGreatDoor
