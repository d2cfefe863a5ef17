/-  -/
import Derived.Test.YtgoijmpahffnhaaGreatDoorLr8
import Derived.BigQuiet
import Derived.Test.YtgoijmpahffnhaaGreatDoorBase
import Derived.Test.YtgoijmpahffnhaaGreatDoorShelf
namespace Go.Proofs.YtgoijmpahffnhaaGreatDoor
set_option linter.all false
open Go.RowKit
set_option maxRecDepth 100000
set_option maxHeartbeats 1000000
theorem bg.setW {F:dQ} {ov:Value} {S S':aY} {w:World} {i:Nat} {v:Value} (h:bg F ov S w) (hset:(FH F S).set i v=FH F S') (e0:∀a c,FD F ov S' a c=FD F ov S a c) (e1:S'.input=S.input) (e2:S'.output=S.output) (e3:S'.vars=S.vars) (e4:S'.items=S.items) :
  bI F ov w ov S' (w.setCell ⟨F.W,i,none⟩ v):=by
 have k:Kept (· = F.W) w (w.setCell ⟨F.W,i,none⟩ v):=(Kept.refl (· = F.W) w).setCell (p:=⟨F.W,i,none⟩) (.inl rfl) _
 obtain ⟨n1,n2,n3,n4,n5,m1,m2,m3,m4,-⟩:=h.fix.ne
 obtain ⟨hs,h1,h2⟩:=h.hits
 obtain ⟨a,c,h3,h4,h5⟩:=h.CQ
 have hW:=h.fix.nW
 refine ⟨⟨h.ql.kept k (fun b hb=>by have:b=F.W:=hb;omega),h.fix,Nat.le_trans h.sz k.size,h.run.kept k (fun e=>m1 e.symm),by rw [←hset];exact h.CP.set i v,⟨hs,h1,h2.kept k (fun e=>m4 e.symm)⟩,
  ⟨a,c,by rw [e0];exact h3.kept k n1,by rw [e1];exact tJ h4 k h.ql.low (fun b hb=>by have:b=F.W:=hb;omega),by rw [e1];exact h5⟩,?_,by rw [e3];exact h.vars.kept k (fun e=>m2 e.symm),by rw [e4];exact h.items.kept k (fun e=>m3 e.symm)⟩,k.more (fun _ h=>.inr (.inl h)),fun _ h=>.inl h⟩
 rw [e2]
 exact h.out.kept k (fun b hb e=>by have e:b=F.W:=e;have:=h.out.lt b hb;omega)
theorem bg.YZ {F:dQ} {ov:Value} {S:aY} {w:World} (h:bg F ov S w):bI F ov w ov (tick S) (w.setCell ⟨F.W,2,none⟩ (.int .i64 ((S.steps:Int)+1))) :=
 h.setW (S':=tick S) (by unfold FH tick;simp) (fun _ _=>rfl) rfl rfl rfl rfl
theorem bg.adl {F:dQ} {ov:Value} {S:aY} {w:World} (h:bg F ov S w) (i:Nat) (n:Int):bI F ov w ov S (w.setCell ⟨F.H,i,none⟩ (.int .i64 n)):=by
 have k:Kept (· = F.H) w (w.setCell ⟨F.H,i,none⟩ (.int .i64 n)):=(Kept.refl (· = F.H) w).setCell (p:=⟨F.H,i,none⟩) (.inl rfl) _
 obtain ⟨n1,n2,n3,n4,n5,m1,m2,m3,m4,p1,p2,p3,r1,r2,r3⟩:=h.fix.ne
 obtain ⟨hs,h1,h2⟩:=h.hits
 obtain ⟨a,c,h3,h4,h5⟩:=h.CQ
 have hH:=h.fix.nH
 refine ⟨⟨h.ql.kept k (fun b hb=>by have:b=F.H:=hb;omega),h.fix,Nat.le_trans h.sz k.size,h.run.kept k p3,h.CP.kept k m4,⟨hs.set i n,by simpa using h1,by rw [List.map_set];exact h2.set i _⟩,
  ⟨a,c,h3.kept k n5,tJ h4 k h.ql.low (fun b hb=>by have:b=F.H:=hb;omega),h5⟩,?_,h.vars.kept k r2,h.items.kept k r3⟩,k.more (fun _ h=>.inr (.inr (.inr (.inr (.inl h))))),fun _ h=>.inl h⟩
 exact h.out.kept k (fun b hb e=>by have e:b=F.H:=e;have:=h.out.lt b hb;omega)
theorem bg.hit {F:dQ} {ov:Value} {S:aY} {w:World} (h:bg F ov S w) {i:Nat} (hi:i<F.l.length):∃n,w.cell? ⟨F.H,i,none⟩=some (.int .i64 n)∧w.frozen? ⟨F.H,i,none⟩=false:=by
 obtain ⟨hs,h1,h2⟩:=h.hits
 exact ⟨hs[i],h2.cell (by rw [List.getElem?_map,List.getElem?_eq_getElem (by omega)];rfl),h2.free i⟩
theorem MW (F:dQ) (ov:Value) (S:aY) (i:Nat) (w:World) (h:bg F ov S w) (hi:i<F.l.length) (hl:F.lim≤1000000) (hs:S.steps≤F.lim) :
  Calls Tryz.prog 37 #[.pointer (some ⟨F.W,0,none⟩),.int .i64 i] w (x8 F ov w (if S.steps=F.lim then (false,{S with how:=2}) else (true,tick S))):=by
 obtain ⟨u0,u2,u3,u4,uf⟩:=h.qE
 by_cases hc:S.steps=F.lim
 ·rw [if_pos hc]
  have e1:((S.steps:Int)==(F.lim:Int))=true:=by rw [hc];simp
  have HS:=ah (fun (wx:World) (k:Kept aB w wx)=>bI.after k ((h.quiet k).Gu 2))
  obtain ⟨a,c,_,_,_,_,_,_,q6,qf,_⟩:=h.mX
  have f6:=qf 6
  clear h hc uf qf
  go_enter Tryz.func37, Tryz.ntmps37
  go_wp2_with fail
  go_quiet (fail)
  go_wp2_with fail
  go_ret
  exact ⟨rfl,ov,HS.out _ ((Kept.refl aB w).drewN _)⟩
 ·rw [if_neg hc]
  have e1:((S.steps:Int)==(F.lim:Int))=false:=by simp;omega
  obtain ⟨n,c1,f1⟩:=h.hit hi
  have f2:=uf 2
  have HS:Hid (∀(wx:World),Kept aB w wx→∀m,bI F ov w ov (tick S) ((wx.setCell ⟨F.W,2,none⟩ (.int .i64 ((S.steps:Int)+1))).setCell ⟨F.H,i,none⟩ (.int .i64 m))):=fun wx k m=>by
   have h1:=(h.quiet k).YZ
   exact bI.after k (h1.trans (h1.at_.adl i m))
  have hne:F.W≠F.H:=h.fix.ne.2.2.2.2.2.2.2.2.1
  have hne':F.H≠F.W:=fun e=>hne e.symm
  have bi:(i:Int)<(F.l.length:Int):=by omega
  clear h hc uf
  go_enter Tryz.func37, Tryz.ntmps37
  go_wp2_with fail
  go_quiet (fail)
  go_wp2_with fail
  go_ret
  exact ⟨rfl,ov,HS.out _ ((Kept.refl aB w).drewN _) _⟩
theorem acS (F:dQ) (nb:aj→Bool) (kb:Int→Bool) (BH:Et F nb kb) (h4:kb 4=false) (ov:Value) (S:aY) (Sx:Nat→Prop) (s:aG) (b o:Nat) (w:World) (h:bg F ov S w) (ok:bM S) (hsx:∀b,Sx b→b<F.N) (hx:Ah w Sx b o s) (hk:okS nb kb s=true) :
  Calls Tryz.prog 38 #[.pointer (some ⟨F.R,0,none⟩),.pointer (some ⟨b,o,none⟩)] w (x8 F ov w (oC s S)):=by
 unfold okS at hk
 by_cases h1:s.kind=1
 ·exact abu F ov S Sx s b o w h hx h1
 rw [if_neg h1] at hk
 by_cases h2:s.kind=2
 ·rw [if_pos h2] at hk;exact abv F nb kb BH h4 ov S Sx s b o w h ok hsx hx h2 hk
 rw [if_neg h2,Bool.and_eq_true,Bool.and_eq_true,Bool.and_eq_true] at hk
 refine Vy F nb kb BH h4 ov S Sx s b o w h ok hsx hx (of_decide_eq_true hk.1) hk.2.1 ?_
 rcases of_decide_eq_true hk.2.2.2 with h3|h3
 ·exact h3
 ·exfalso
  have:=hk.2.2.1
  generalize s.target=x at this h3
  obtain ⟨k,t,n,nm,kids⟩:=x
  obtain rfl:k=4:=h3
  rw [uZ,if_neg (by decide),if_neg (by decide),if_neg (by decide),if_pos rfl,h4] at this
  simp at this
end Go.Proofs.YtgoijmpahffnhaaGreatDoor

namespace Go.Proofs.YtgoijmpahffnhaaGreatDoor
set_option linter.all false
open Go.RowKit
set_option maxRecDepth 100000
def Done (w:World) (e:Ending) (w':World):Prop:=e=.returned (.tuple #[])∧Kept aB w w'
theorem abT (f:Value) (w:World):Calls Tryz.prog 175 #[.slice none 0 0,.int .i64 0,.int .i64 0,f] w (Done w):=by
 go_enter Tryz.func175, Tryz.ntmps175
 go_wp2_with fail
 go_loopw [8] (fun i wr=>i=.int .i64 1∧wr=w) (fun _ _=>0)
 case atStart=>exact ⟨rfl,rfl⟩
 case round =>
  obtain ⟨rfl,rfl⟩:=hrel
  go_wp2_with fail
  exact bodyPost_ret (v:=.tuple #[]) (by simp [results,Tryz.results175,go_sem]) rfl ⟨rfl,Kept.refl _ _⟩
theorem agR (f:Value) (n:Int) (w:World):Calls Tryz.prog 116 #[.slice none 0 0,.int .i64 0,.int .i64 0,.int .i64 n,f] w (Done w):=by
 go_enter Tryz.func116, Tryz.ntmps116
 go_wp2_with fail
 go_loopw [1,2,3] (fun a b c wr=>a=.int .i64 0∧b=.int .i64 0∧c=.int .i64 n∧wr=w) (fun _ _ _ _=>0)
 case atStart=>exact ⟨rfl,rfl,rfl,rfl⟩
 case round =>
  obtain ⟨rfl,rfl,rfl,rfl⟩:=hrel
  go_wp2_with (go_at_call 175;(with_reducible refine (abT f _).mono ?_);rintro e w1 ⟨rfl,k_⟩;have K1:=ah k_;clear k_)
  exact bodyPost_ret (v:=.tuple #[]) (by simp [results,Tryz.results116,go_sem]) rfl ⟨rfl,K1.out⟩
theorem afe (f:Value) (w:World):Calls Tryz.prog 75 #[.slice none 0 0,f] w (Done w):=by
 go_enter Tryz.func75, Tryz.ntmps75
 go_wp2_with (first
  | (go_at_call 117;(refine (Tryz.bits_Len 0 _ (by omega) (by omega)).mono ?_);rintro e w' ⟨rfl,aK⟩;obtain rfl:=aK.symm;clear aK)
  | (go_at_call 116;(with_reducible refine (agR f _ _).mono ?_);rintro e w1 ⟨rfl,k_⟩;have K1:=ah k_;clear k_))
 exact bodyPost_ret (v:=.tuple #[]) (by simp [results,Tryz.results75,go_sem]) rfl ⟨rfl,K1.out⟩
end Go.Proofs.YtgoijmpahffnhaaGreatDoor
