/-  -/
import Derived.Test.YtodebjhalipefaaGreatDoorLq15
namespace Go.Proofs.YtodebjhalipefaaGreatDoor
set_option linter.all false
open Go.RowKit
set_option maxRecDepth 100000
set_option maxHeartbeats 2000000
def zB:aj:=⟨#[69,81]⟩
theorem RJ (a b:aj):gK zB [a,b]=(aS a).bind fun x=>(aS b).bind fun y=>uz (NR zB.toList x y):=by
 unfold gK
 dsimp only
 rw [if_neg (by decide +kernel),if_neg (by decide +kernel),if_neg (by decide +kernel),if_neg (by decide +kernel),if_neg (by decide +kernel),if_neg (by decide +kernel),if_neg (by decide +kernel),if_neg (by decide +kernel),if_neg (by decide +kernel),if_neg (by decide +kernel),if_neg (by decide +kernel),if_neg (by decide +kernel),if_neg (by decide +kernel),if_neg (by decide +kernel),if_neg (by decide +kernel),if_neg (by decide +kernel)]
 show ((aS a).bind fun x=>(aS b).bind fun y=>_)=_
 congr 1
 funext x
 congr 1
 funext y
 rw [if_neg (by decide +kernel),if_neg (by decide +kernel),if_neg (by decide +kernel),if_neg (by decide +kernel)]
theorem aeK (a b:Int):NR zB.toList a b=decide (a=b):=by
 unfold NR
 rw [if_pos (by decide +kernel)]
theorem aeL (t u:aj) (a b:Int) (h1:aS t=some a) (h2:aS u=some b):gK zB [t,u]=uz (decide (a=b)):=by
 rw [RJ,h1,h2]
 show uz (NR zB.toList a b)=_
 rw [aeK]
theorem Qv (d:Int) (w:World):Calls Tryz.prog 177 #[.string ⟨#[69,81]⟩,.int .i64 d] w (Jg (.bool (decide (d=0))) w):=by
 go_enter Tryz.func177, Tryz.ntmps177
 go_wp2_with fail
 go_ret
 exact ⟨by first|rfl|simp,rfl⟩
theorem Uf (l:List aj) (al:Option Addr) (cl:Nat) (w:World) (hg:jq w) (hs:aX w (· < w.heap.size) al l) (h1:l.length=2) :
  Calls Tryz.prog 116 #[.string zB,.slice al l.length cl] w (wX (gK zB l) w):=by
 obtain ⟨t,u,b,o,rfl,rfl,c0,c1⟩:=args2 hs h1
 have HR:=J4 t u (some ⟨b,o,none⟩) cl w hg hs
 clear hs h1 hg
 show Calls Tryz.prog 116 #[.string ⟨#[69,81]⟩,.slice (some ⟨b,o,none⟩) 2 cl] w _
 by_cases hz:aS t=none∨aS u=none
 ·have FIN:Hid (gK zB [t,u]=none):=by
   unfold Hid;rw [RJ]
   rcases hz with h|h
   ·rw [h];rfl
   ·rw [h];cases aS t<;>rfl
  have H:Hid (Calls Tryz.prog 153 #[.slice (some ⟨b,o,none⟩) 2 cl] w (fun e w'=>e=.returned (.tuple #[.slice none 0 0,.bool false])∧Kept aA w w')):=HR.mono (by
   rintro e w' ⟨k,⟨_,he⟩|⟨x,y,_,_,_,hx,hy,_⟩⟩
   ·exact ⟨he,k⟩
   ·rcases hz with h|h
    ·rw [h] at hx;cases hx
    ·rw [h] at hy;cases hy)
  clear hz HR c0 c1
  go_enter Tryz.func116, Tryz.ntmps116
  go_wp2_with (go_at_call 153;(with_reducible refine H.out.mono ?_);rintro e w2 ⟨rfl,hk⟩;have K2:=ah hk;clear hk)
  go_ret2
  exact ⟨by rw [FIN.out];rfl,K2.out⟩
 ·obtain ⟨x,hx⟩:∃x,aS t=some x:=Option.ne_none_iff_exists'.1 (fun h=>hz (.inl h))
  obtain ⟨y,hy⟩:∃y,aS u=some y:=Option.ne_none_iff_exists'.1 (fun h=>hz (.inr h))
  obtain ⟨d,hd⟩:∃d:Int,d=(if x<y then -1 else if y<x then 1 else 0):=⟨_,rfl⟩
  obtain ⟨q,hq⟩:∃q,q=decide (d=0):=⟨_,rfl⟩
  have hqd:q=decide (x=y):=by
   rw [hq,decide_eq_decide,hd]
   split
   ·omega
   ·split<;>omega
  have FIN:Hid (gK zB [t,u]=uz q):=by unfold Hid;rw [aeL t u x y hx hy,hqd]
  have H:Hid (Calls Tryz.prog 153 #[.slice (some ⟨b,o,none⟩) 2 cl] w (fun e w'=>Kept aA w w'∧∃g o c,e=.returned (.tuple #[.slice (some ⟨g,o,none⟩) 2 c,.bool true])∧w'.cell? ⟨g,o,none⟩=some (.int .i64 x)∧w'.cell? ⟨g,o+1,none⟩=some (.int .i64 y))):=HR.mono (by
   rintro e w' ⟨k,⟨h,_⟩|⟨x',y',g,o,c,hx',hy',he,h1,h2⟩⟩
   ·exact absurd h hz
   ·rw [hx] at hx';rw [hy] at hy';cases hx';cases hy';exact ⟨k,g,o,c,he,h1,h2⟩)
  have HO:Hid (∀wx,Calls Tryz.prog 178 #[.int .i64 x,.int .i64 y] wx (Jg (.int .i64 d) wx)):=fun wx=>by rw [hd];exact WL x y wx
  have HC:Hid (∀wx,Calls Tryz.prog 177 #[.string ⟨#[69,81]⟩,.int .i64 d] wx (Jg (.bool q) wx)):=fun wx=>by rw [hq];exact Qv d wx
  clear hz HR c0 c1 hqd hq hd hx hy
  go_enter Tryz.func116, Tryz.ntmps116
  go_upto_region 62 with (go_at_call 153;(with_reducible refine H.out.mono ?_);rintro e w2 ⟨hk,g9,o9,c9,rfl,u0,u1⟩;have K2:=ah hk;clear hk)
  go_wp2_with (go_region_with first
   | (go_at_call 178;(with_reducible refine (HO.out _).mono ?_);rintro e w3 ⟨rfl,hw3⟩;subst hw3)
   | (go_at_call 177;(with_reducible refine (HC.out _).mono ?_);rintro e w4 ⟨rfl,hw4⟩;subst hw4))
  all_goals exact lT rfl rfl rfl ⟨by rw [FIN.out];cases q<;>rfl,by repeat (first|exact K2.out|refine Kept.drew ?_|refine Kept.drewN ?_ _)⟩
end Go.Proofs.YtodebjhalipefaaGreatDoor
