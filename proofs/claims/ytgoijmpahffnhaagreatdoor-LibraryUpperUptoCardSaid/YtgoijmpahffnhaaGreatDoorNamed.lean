/-  -/
import Derived.Test.YtgoijmpahffnhaaGreatDoorBase
namespace Go.Proofs.YtgoijmpahffnhaaGreatDoor
set_option linter.all false
open Go.RowKit
set_option maxHeartbeats 400000
theorem qo {t:aj}:t.toList.isEmpty=true↔t.size=0:=by
 rw [ByteArray.toList_eq];simp only [List.isEmpty_iff,ByteArray.size]
 rw [←Array.length_toList,List.length_eq_zero_iff]
theorem jJ {t:aj}:t.toList.isEmpty=false↔0<t.size:=by
 rw [←Bool.not_eq_true,qo];omega
def jc (c:UInt8):Bool:=decide (65≤c.toNat)&&decide (c.toNat≤90)
def cO (c:UInt8):Bool:=decide (48≤c.toNat)&&decide (c.toNat≤57)
def lG (i:Nat) (c:UInt8):Bool:=jc c||(i != 0&&cO c)
def fV (s:aj):Bool:=decide (1≤s.size)&&decide (s.size≤16)&&(List.range s.size).all fun i=>lG i (s.data.toList.getD i 0)
theorem getD_at {s:aj} {k:Nat} (h:k<s.size):s.data.toList.getD k 0=s[k]:=by
 have:k<s.data.toList.length:=by simpa using h
 rw [List.getD_eq_getElem?_getD,List.getElem?_eq_getElem this];rfl
theorem Gw {s:aj} {k:Nat} (h:k<s.size) (hn:lG k s[k]=false):fV s=false:=by
 unfold fV
 rw [Bool.and_eq_false_iff];right
 rw [List.all_eq_false]
 exact ⟨k,by simpa using h,by rw [getD_at h,hn];simp⟩
theorem ZC {s:aj} (h1:1≤s.size) (h2:s.size≤16) (h:∀j,j<s.size→lG j (s.data.toList.getD j 0)=true):fV s=true:=by
 unfold fV
 simp only [Bool.and_eq_true,decide_eq_true_eq,List.all_eq_true,List.mem_range]
 exact ⟨⟨h1,h2⟩,h⟩
theorem acH {i:Nat} {c:UInt8} (h1:65≤c.toNat) (h2:c.toNat≤90):lG i c=true:=by simp [lG,jc,h1,h2]
theorem acI {i:Nat} {c:UInt8} (h0:i≠0) (h1:48≤c.toNat) (h2:c.toNat≤57):lG i c=true:=by simp [lG,cO,h0,h1,h2]
theorem WX {i:Nat} {c:UInt8} (h1:c.toNat<65∨90<c.toNat) (h2:i=0∨c.toNat<48∨57<c.toNat):lG i c=false:=by
 have a:jc c=false:=by unfold jc;rcases h1 with h|h<;>simp<;>omega
 unfold lG;rw [a]
 rcases h2 with h|h|h
 ·simp [h]
 ·simp [cO];intro;omega
 ·simp [cO];omega
theorem sD (s:aj) (w:World) (hs:s.size≤maxLen) :
  Calls Tryz.prog 93 #[.string s] w fun e w'=>e=.returned (.bool (fV s))∧w=w':=by
 unfold maxLen at hs
 by_cases h0:s.size<1
 ·go_enter Tryz.func93, Tryz.ntmps93
  go_wp2
  go_ret
  exact ⟨by unfold fV;rw [au (by omega)];rfl,rfl⟩
 by_cases h1:16<s.size
 ·go_enter Tryz.func93, Tryz.ntmps93
  go_wp2
  go_ret
  exact ⟨by unfold fV;rw [au (show ¬s.size≤16 by omega)];simp,rfl⟩
 go_enter Tryz.func93, Tryz.ntmps93
 go_wp2
 go_loop [15] (fun i=>∃k:Nat,k≤s.size∧i=.int .i64 k∧Hid (∀j,j<k→lG j (s.data.toList.getD j 0)=true)) (fun i=>s.size-(intOf i).toNat)
 case atStart=>exact ⟨0,Nat.zero_le _,rfl,by intro j hj;omega⟩
 case round =>
  obtain ⟨k,hk,rfl,hok⟩:=hrel
  by_cases hlt:k<s.size
  ·have step:lG k s[k]=true→∀j,j<k+1→lG j (s.data.toList.getD j 0)=true:=by
    intro hn j hj
    rcases Nat.lt_or_ge j k with h|h
    ·exact hok.out j h
    ·obtain rfl:j=k:=by omega
     rw [getD_at hlt];exact hn
   have Step:=ah step;clear step
   rcases (show (65≤s[k].toNat∧s[k].toNat≤90)∨((s[k].toNat<65∨90<s[k].toNat)∧k=0)∨((48≤s[k].toNat∧s[k].toNat≤57)∧0<k)∨((s[k].toNat<48∨(57<s[k].toNat∧s[k].toNat<65))∧0<k)∨(90<s[k].toNat∧0<k) by omega) with ⟨a,b⟩|⟨a,b⟩|⟨⟨a,b⟩,c⟩|⟨a,c⟩|⟨a,c⟩
   ·go_wp2
    go_round
    case rel=>exact ⟨k+1,by omega,by go_num,Step.out (acH a b)⟩
    case measure=>simp [intOf];omega
   ·have fin:=ah (Gw hlt (WX a (.inl b)))
    subst b
    rcases a with a|a
    ·go_wp2
     go_ret
     exact ⟨by rw [fin.out];try rfl,rfl⟩
    ·have q:decide ((s[0].toNat:Int)≤90)=false:=au (by omega)
     go_wp2
     go_ret
     exact ⟨by rw [fin.out];try rfl,rfl⟩
   ·have z:((k:Int)==0)=false:=by simp;omega
    have q:decide ((s[k].toNat:Int)≤57)=true:=ak (by omega)
    go_wp2
    go_round
    case rel=>exact ⟨k+1,by omega,by go_num,Step.out (acI (by omega) a b)⟩
    case measure=>simp [intOf];omega
   ·have fin:=ah (Gw hlt (WX (by omega) (.inr (by omega))))
    have z:((k:Int)==0)=false:=by simp;omega
    rcases a with a|⟨a,b⟩ <;>
    ·try have q:decide ((s[k].toNat:Int)≤57)=false:=au (by omega)
     go_wp2
     go_ret
     exact ⟨by rw [fin.out];try rfl,rfl⟩
   ·have fin:=ah (Gw hlt (WX (by omega) (.inr (by omega))))
    have z:((k:Int)==0)=false:=by simp;omega
    have q:decide ((s[k].toNat:Int)≤90)=false:=au (by omega)
    have q':decide ((s[k].toNat:Int)≤57)=false:=au (by omega)
    go_wp2
    go_ret
    exact ⟨by rw [fin.out];try rfl,rfl⟩
  ·obtain rfl:k=s.size:=by omega
   have fin:=ah (ZC (by omega) (by omega) hok.out)
   go_wp2
   go_ret
   exact ⟨by rw [fin.out];try rfl,rfl⟩
end Go.Proofs.YtgoijmpahffnhaaGreatDoor
