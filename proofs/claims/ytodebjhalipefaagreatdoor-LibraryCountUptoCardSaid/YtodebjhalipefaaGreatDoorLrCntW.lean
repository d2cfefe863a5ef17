/-  -/
import Derived.Test.YtodebjhalipefaaGreatDoorLq23
import Derived.Test.YtodebjhalipefaaGreatDoorLq12
namespace Go.Proofs.YtodebjhalipefaaGreatDoor
set_option linter.all false
open Go.RowKit
set_option maxRecDepth 100000
set_option maxHeartbeats 8000000
def LU (k:Int):Bool:=decide (k=2)||decide (k=9)
theorem ade {F:dG} (hG:F.G=jq):BR F (fun _=>false) LU where
 bu nm h:=absurd h Bool.false_ne_true
 bi k h h8 a b w hg _ _:=by
  rw [hG] at hg
  rcases Bool.or_eq_true _ _ ▸ h with h|h
  ·have:=of_decide_eq_true h;omega
  ·obtain rfl:k=9:=of_decide_eq_true h
   exact Uj a b w hg
 nu _ n hz w hg:=Fv n w (by rw [hG] at hg;exact hg) hz
set_option maxRecDepth 1000000 in
theorem aas:oK ⟨#[99,111,117,110,116]⟩ sK=(uF,0):=by kernel_rfl
set_option maxRecDepth 1000000 in
theorem adf:Jc uF=true:=by kernel_rfl
set_option maxRecDepth 1000000 in
theorem aat:uF.size≤100000:=of_decide_eq_true (by kernel_rfl)
set_option maxRecDepth 1000000 in
theorem aau:mY uF=.ok uD:=by kernel_rfl
theorem WS:bZ uD=(0,0):=(J5 (by kernel_rfl)).1
theorem WT:∀st∈uD,okS (fun _=>false) LU st=true:=by decide +kernel
theorem ltext_any (u:Nat) (hu:u<9223372036854775808) (w:World):Calls Tryz.prog 6 #[.int .i64 u] w (fun e w'=>e=.returned (.string (bY u))∧Kept aA w w'):=by
 have e:bY (u:Int)=⟨(Lib.decDigits u).toArray⟩:=by unfold bY Lib.itoa;rw [if_neg (by omega)];rfl
 have H:Hid (Calls Tryz.prog 11 #[.int .i64 u,.int .i64 10] w (fun e w'=>e=.returned (.tuple #[.string (bY u),.int .i64 0])∧Kept aA w w')):=by
  rw [e];exact ZF u hu w
 clear e
 go_enter Tryz.func6, Tryz.ntmps6
 go_wp2_with (go_at_call 11;(with_reducible refine H.out.mono ?_);rintro e w2 ⟨rfl,hk⟩;have K:=ah hk;clear hk)
 go_ret
 exact ⟨rfl,K.out⟩
theorem agO (w:World) (t:aj):aX (w.alloc (.cells #[.string t] 9)) (· < (w.alloc (.cells #[.string t] 9)).heap.size) (some ⟨w.heap.size,0,none⟩) [t]:=by
 intro _
 refine ⟨_,0,rfl,by simp,fun i hi=>?_⟩
 obtain rfl:i=0:=by simpa using hi
 exact (dH.new w 9 (.string t)).cell
theorem aav (input:List aj) (ia:Option Addr) (ic:Nat) (w:World) (hm:oz w) (hr:iD w) (hg:jq w) (hin:aX w (· < w.heap.size) ia input) (hic:input.length≤ic) (hil:input.length≤1048576) :
  Calls Tryz.prog 3 #[.slice ia input.length ic] w (wG true w):=by
 have HX:=ah (ltext_any input.length (by omega) w)
 obtain ⟨t,ht⟩:∃t,t=bY (input.length:Nat):=⟨_,rfl⟩
 have law:=adb (nb:=fun _=>false) (kb:=LU) rfl WT input (by omega)
 rw [←ht] at HX law
 have HT:Hid (∀w1,Kept aA w w1→Calls Tryz.prog 5 #[.string ⟨#[99,111,117,110,116]⟩,.slice ia input.length ic,.slice (some ⟨w1.heap.size,0,none⟩) 1 1] (w1.alloc (.cells #[.string t] 9)) (wG true w)):=fun w1 hk=>by
  have k1:Kept aA w (w1.alloc (.cells #[.string t] 9)):=hk.alloc _
  have h:=J3 ⟨#[99,111,117,110,116]⟩ uF uD input [t] ia (some ⟨w1.heap.size,0,none⟩) ic 1 (w1.alloc (.cells #[.string t] 9)) jq (fun _=>false) LU (fun _ h=>ade h) rfl adf aas aat aau WS (by decide) (by decide) WT (hm.kept k1 (fun h=>h)) (by obtain ⟨ev,h1,h2⟩:=hr;exact ⟨ev,(k1.cell (cell_lt h1) (fun h=>h)).trans h1,h2⟩) (hin.to k1 (Safe.lt (Nat.le_refl _)) (fun _ h=>Nat.lt_of_lt_of_le h k1.size)) hic (by omega) (hg.kept k1 (fun h=>h) (fun h=>h)) (jq.gk _ (hg.kept k1 (fun h=>h) (fun h=>h))) (agO w1 t) (by simp) law
  exact h.mono fun e w' q=>⟨q.1,k1.trans q.2⟩
 clear hm hr hin hic hg law ht
 go_enter Tryz.func3, Tryz.ntmps3
 go_wp2_with first
  | (go_at_call 6;(with_reducible refine HX.out.mono ?_);rintro e w1 ⟨rfl,k_⟩;have K1:=ah k_;clear k_)
  | (go_at_call 5;(with_reducible refine (HT.out _ K1.out).mono ?_);rintro e w2 ⟨rfl,k_⟩;have K2:=ah k_;clear k_)
 go_ret
 exact ⟨rfl,K2.out⟩
end Go.Proofs.YtodebjhalipefaaGreatDoor
