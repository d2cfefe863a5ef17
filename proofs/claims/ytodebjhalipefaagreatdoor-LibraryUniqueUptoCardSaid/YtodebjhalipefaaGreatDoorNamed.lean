/-  -/
import Derived.Test.YtodebjhalipefaaGreatDoorBase
namespace Go.Proofs.YtodebjhalipefaaGreatDoor
set_option linter.all false
open Go.RowKit
set_option maxHeartbeats 400000
theorem pI {t:aj}:t.toList.isEmpty=true↔t.size=0:=by
 rw [ByteArray.toList_eq];simp only [List.isEmpty_iff,ByteArray.size]
 rw [←Array.length_toList,List.length_eq_zero_iff]
theorem jD {t:aj}:t.toList.isEmpty=false↔0<t.size:=by
 rw [←Bool.not_eq_true,pI];omega
def iZ (c:UInt8):Bool:=decide (65≤c.toNat)&&decide (c.toNat≤90)
def cu (c:UInt8):Bool:=decide (48≤c.toNat)&&decide (c.toNat≤57)
def kT (i:Nat) (c:UInt8):Bool:=iZ c||(i != 0&&cu c)
def fQ (s:aj):Bool:=decide (1≤s.size)&&decide (s.size≤16)&&(List.range s.size).all fun i=>kT i (s.data.toList.getD i 0)
theorem getD_at {s:aj} {k:Nat} (h:k<s.size):s.data.toList.getD k 0=s[k]:=by
 have:k<s.data.toList.length:=by simpa using h
 rw [List.getD_eq_getElem?_getD,List.getElem?_eq_getElem this];rfl
theorem FM {s:aj} {k:Nat} (h:k<s.size) (hn:kT k s[k]=false):fQ s=false:=by
 unfold fQ
 rw [Bool.and_eq_false_iff];right
 rw [List.all_eq_false]
 exact ⟨k,by simpa using h,by rw [getD_at h,hn];simp⟩
theorem X8 {s:aj} (h1:1≤s.size) (h2:s.size≤16) (h:∀j,j<s.size→kT j (s.data.toList.getD j 0)=true):fQ s=true:=by
 unfold fQ
 simp only [Bool.and_eq_true,decide_eq_true_eq,List.all_eq_true,List.mem_range]
 exact ⟨⟨h1,h2⟩,h⟩
theorem aaW {i:Nat} {c:UInt8} (h1:65≤c.toNat) (h2:c.toNat≤90):kT i c=true:=by simp [kT,iZ,h1,h2]
theorem aaX {i:Nat} {c:UInt8} (h0:i≠0) (h1:48≤c.toNat) (h2:c.toNat≤57):kT i c=true:=by simp [kT,cu,h0,h1,h2]
theorem U6 {i:Nat} {c:UInt8} (h1:c.toNat<65∨90<c.toNat) (h2:i=0∨c.toNat<48∨57<c.toNat):kT i c=false:=by
 have a:iZ c=false:=by unfold iZ;rcases h1 with h|h<;>simp<;>omega
 unfold kT;rw [a]
 rcases h2 with h|h|h
 ·simp [h]
 ·simp [cu];intro;omega
 ·simp [cu];omega
theorem ru (s:aj) (w:World) (hs:s.size≤maxLen) :
  Calls Tryz.prog 108 #[.string s] w fun e w'=>e=.returned (.bool (fQ s))∧w=w':=by
 unfold maxLen at hs
 by_cases h0:s.size<1
 ·go_enter Tryz.func108, Tryz.ntmps108
  go_wp2
  go_ret
  exact ⟨by unfold fQ;rw [au (by omega)];rfl,rfl⟩
 by_cases h1:16<s.size
 ·go_enter Tryz.func108, Tryz.ntmps108
  go_wp2
  go_ret
  exact ⟨by unfold fQ;rw [au (show ¬s.size≤16 by omega)];simp,rfl⟩
 go_enter Tryz.func108, Tryz.ntmps108
 go_wp2
 go_loop [15] (fun i=>∃k:Nat,k≤s.size∧i=.int .i64 k∧Hid (∀j,j<k→kT j (s.data.toList.getD j 0)=true)) (fun i=>s.size-(intOf i).toNat)
 case atStart=>exact ⟨0,Nat.zero_le _,rfl,by intro j hj;omega⟩
 case round =>
  obtain ⟨k,hk,rfl,hok⟩:=hrel
  by_cases hlt:k<s.size
  ·have step:kT k s[k]=true→∀j,j<k+1→kT j (s.data.toList.getD j 0)=true:=by
    intro hn j hj
    rcases Nat.lt_or_ge j k with h|h
    ·exact hok.out j h
    ·obtain rfl:j=k:=by omega
     rw [getD_at hlt];exact hn
   have Step:=ah step;clear step
   rcases (show (65≤s[k].toNat∧s[k].toNat≤90)∨((s[k].toNat<65∨90<s[k].toNat)∧k=0)∨((48≤s[k].toNat∧s[k].toNat≤57)∧0<k)∨((s[k].toNat<48∨(57<s[k].toNat∧s[k].toNat<65))∧0<k)∨(90<s[k].toNat∧0<k) by omega) with ⟨a,b⟩|⟨a,b⟩|⟨⟨a,b⟩,c⟩|⟨a,c⟩|⟨a,c⟩
   ·go_wp2
    go_round
    case rel=>exact ⟨k+1,by omega,by go_num,Step.out (aaW a b)⟩
    case measure=>simp [intOf];omega
   ·have fin:=ah (FM hlt (U6 a (.inl b)))
    subst b
    rcases a with a|a
    ·go_wp2
     go_ret
     exact ⟨by rw [fin.out];try rfl,rfl⟩
    ·have q:decide ((s[0].toNat:Int)≤90)=false:=au (by omega)
     go_wp2
     go_ret
     exact ⟨by rw [fin.out];try rfl,rfl⟩
   ·have z:((k:Int)==0)=false:=by simp;omega
    have q:decide ((s[k].toNat:Int)≤57)=true:=ak (by omega)
    go_wp2
    go_round
    case rel=>exact ⟨k+1,by omega,by go_num,Step.out (aaX (by omega) a b)⟩
    case measure=>simp [intOf];omega
   ·have fin:=ah (FM hlt (U6 (by omega) (.inr (by omega))))
    have z:((k:Int)==0)=false:=by simp;omega
    rcases a with a|⟨a,b⟩ <;>
    ·try have q:decide ((s[k].toNat:Int)≤57)=false:=au (by omega)
     go_wp2
     go_ret
     exact ⟨by rw [fin.out];try rfl,rfl⟩
   ·have fin:=ah (FM hlt (U6 (by omega) (.inr (by omega))))
    have z:((k:Int)==0)=false:=by simp;omega
    have q:decide ((s[k].toNat:Int)≤90)=false:=au (by omega)
    have q':decide ((s[k].toNat:Int)≤57)=false:=au (by omega)
    go_wp2
    go_ret
    exact ⟨by rw [fin.out];try rfl,rfl⟩
  ·obtain rfl:k=s.size:=by omega
   have fin:=ah (X8 (by omega) (by omega) hok.out)
   go_wp2
   go_ret
   exact ⟨by rw [fin.out];try rfl,rfl⟩
end Go.Proofs.YtodebjhalipefaaGreatDoor
