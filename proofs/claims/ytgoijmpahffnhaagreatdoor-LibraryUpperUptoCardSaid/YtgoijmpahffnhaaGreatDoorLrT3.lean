/-  -/
import Derived.Test.YtgoijmpahffnhaaGreatDoorLq13
import Derived.Test.YtgoijmpahffnhaaGreatDoorLq18
namespace Go.Proofs.YtgoijmpahffnhaaGreatDoor
set_option linter.all false
open Go.RowKit
set_option maxRecDepth 100000
set_option maxHeartbeats 8000000
def uy:aj:=⟨#[82,69,80,76,65,67,69]⟩
def Bo (a b:List UInt8) (t:aj):aj:=⟨(t.data.toList.map (sU a b)).toArray⟩
theorem YU (t a b:aj) (ht:t.size≤65536) (ha:a.size≤65536) (hb:b.size≤65536) (hab:a.size=b.size) (h0:0<a.size):bJ uy [t,a,b]=some (Bo a.data.toList b.data.toList t):=by
 unfold bJ
 dsimp only
 rw [if_neg (by decide +kernel),if_neg (by decide +kernel),if_neg (by decide +kernel),if_pos (by decide +kernel)]
 show Bv t a b=_
 unfold Bv Bo
 rw [if_neg (by omega),if_neg (by omega)]
theorem acp (t a b:aj) (h:¬(a.size=b.size∧0<a.size)):bJ uy [t,a,b]=none:=by
 unfold bJ
 dsimp only
 rw [if_neg (by decide +kernel),if_neg (by decide +kernel),if_neg (by decide +kernel),if_pos (by decide +kernel)]
 show Bv t a b=_
 unfold Bv
 split
 ·rfl
 ·rw [if_pos (by omega)]
theorem OX (t a b:aj) (w:World) (ht:t.size≤65536) (ha:a.size≤65536) (hb:b.size≤65536) (hab:¬(a.size=b.size∧0<a.size)):Calls Tryz.prog 148 #[.string t,.string a,.string b] w (fun e w'=>e=.returned (.tuple #[.string ⟨#[]⟩,.int .i64 8])∧Kept aA w w'):=by
 have HL:Hid (jF [t,a,b]=false):=by unfold Hid jF;simp;omega
 have hs:Hid (aQ (w.alloc (.cells #[.string t,.string a,.string b] 9)) (· < (w.alloc (.cells #[.string t,.string a,.string b] 9)).heap.size) (some ⟨w.heap.size,0,none⟩) [t,a,b]):=by
  intro _
  refine ⟨_,0,rfl,by simp,fun i hi=>?_⟩
  have HB:=dG.new w 9 [.string t,.string a,.string b]
  rw [Nat.zero_add]
  match i,hi with
  | 0,_=>exact HB.cell rfl
  | 1,_=>exact HB.cell rfl
  | 2,_=>exact HB.cell rfl
 by_cases h1:a.size=b.size
 ·have h0:a.size=0:=by omega
  obtain rfl:a=⟨#[]⟩:=by
   apply ByteArray.ext;exact Array.eq_empty_of_size_eq_zero h0
  have e1:(((⟨#[]⟩:aj).size:Int) != (b.size:Int))=false:=by rw [h1];simp
  clear h1 h0
  go_enter Tryz.func148, Tryz.ntmps148
  go_wp2_with (go_at_call 201;(refine (Bq [t,⟨#[]⟩,b] (some ⟨w.heap.size,0,none⟩) 3 _ hs.out (by simp)).mono ?_;rintro e w2 ⟨rfl,hw2⟩;rw [HL.out];subst hw2))
  all_goals (go_ret2;exact ⟨rfl,(Kept.refl _ w).alloc _⟩)
 ·have e1:((a.size:Int) != (b.size:Int))=true:=by simp;omega
  go_enter Tryz.func148, Tryz.ntmps148
  go_wp2_with (go_at_call 201;(refine (Bq [t,a,b] (some ⟨w.heap.size,0,none⟩) 3 _ hs.out (by simp)).mono ?_;rintro e w2 ⟨rfl,hw2⟩;rw [HL.out];subst hw2))
  go_ret2
  exact ⟨rfl,(Kept.refl _ w).alloc _⟩
theorem OJ (l:List aj) (al:Option Addr) (cl:Nat) (w:World) (hs:aQ w (· < w.heap.size) al l) (h1:l.length=3) (hz:∀t∈l,t.size≤65536) :
  Calls Tryz.prog 101 #[.string uy,.slice al l.length cl] w (AZ (bJ uy l) w):=by
 obtain ⟨t,a,b,rfl⟩:∃t a b,l=[t,a,b]:=by
  match l,h1 with
  | [t,a,b],_=>exact ⟨t,a,b,rfl⟩
 obtain ⟨g,f,rfl,_,hc⟩:=hs (by simp)
 have c0:w.cell? ⟨g,f,none⟩=some (.string t):=by have:=hc 0 (by simp);simpa using this
 have c1:w.cell? ⟨g,f+1,none⟩=some (.string a):=by have:=hc 1 (by simp);simpa using this
 have c2:w.cell? ⟨g,f+2,none⟩=some (.string b):=by have:=hc 2 (by simp);simpa using this
 have ht:=hz t (by simp)
 have ha:=hz a (by simp)
 have hb:=hz b (by simp)
 clear hs hc hz h1
 show Calls Tryz.prog 101 #[.string ⟨#[82,69,80,76,65,67,69]⟩,.slice (some ⟨g,f,none⟩) 3 cl] w _
 obtain ⟨o,k,q,HT,HMD,FIN⟩:∃(o:aj) (k:Int) (q:Bool),Hid (∀wx,Kept aA w wx→Calls Tryz.prog 148 #[.string t,.string a,.string b] wx (fun e w'=>e=.returned (.tuple #[.string o,.int .i64 k])∧Kept aA w w'))∧Hid (∀wx,Calls Tryz.prog 145 #[.string o,.int .i64 k] wx (Dt (.tuple #[.string o,.bool q]) wx))∧Hid ((bJ uy [t,a,b]).getD ⟨#[]⟩=o∧(bJ uy [t,a,b]).isSome=q):=by
  by_cases hab:a.size=b.size∧0<a.size
  ·exact ⟨Bo a.data.toList b.data.toList t,0,true,fun wx hk=>(OW t a b wx ht ha hb hab.1 hab.2).mono fun e w' h=>⟨h.1,hk.trans h.2⟩,fun wx=>Gv _ 0 wx,by unfold Hid;rw [YU t a b ht ha hb hab.1 hab.2];exact ⟨rfl,rfl⟩⟩
  ·exact ⟨⟨#[]⟩,8,false,fun wx hk=>(OX t a b wx ht ha hb hab).mono fun e w' h=>⟨h.1,hk.trans h.2⟩,fun wx=>Gv _ 8 wx,by unfold Hid;rw [acp t a b hab];exact ⟨rfl,rfl⟩⟩
 clear ht ha hb
 go_enter Tryz.func101, Tryz.ntmps101
 go_wp2_with (go_region_with first
  | (go_at_call 148;(with_reducible refine (HT.out _ (by repeat (first|exact Kept.refl aA _|refine Kept.drew ?_|refine Kept.drewN ?_ _))).mono ?_);rintro e w2 ⟨rfl,hk⟩;have K2:=ah hk;clear hk)
  | (go_at_call 145;(with_reducible refine (HMD.out _).mono ?_);rintro e w3 ⟨rfl,hw3⟩;subst hw3))
 all_goals exact rW rfl rfl rfl ⟨by rw [FIN.out.1,FIN.out.2];rfl,K2.out⟩
end Go.Proofs.YtgoijmpahffnhaaGreatDoor
