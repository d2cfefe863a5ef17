/-  -/
import Derived.Test.YtgoijmpahffnhaaGreatDoorBase
import Derived.Test.YtgoijmpahffnhaaGreatDoorShelf
namespace Go.Proofs.YtgoijmpahffnhaaGreatDoor
set_option linter.all false
open Go.RowKit
set_option maxRecDepth 100000
def Done (w:World) (e:Ending) (w':World):Prop:=e=.returned (.tuple #[])∧Kept aA w w'
theorem aeT (f:Value) (w:World):Calls Tryz.prog 175 #[.slice none 0 0,.int .i64 0,.int .i64 0,f] w (Done w):=by
 go_enter Tryz.func175, Tryz.ntmps175
 go_wp2_with fail
 go_loopw [8] (fun i wr=>i=.int .i64 1∧wr=w) (fun _ _=>0)
 case atStart=>exact ⟨rfl,rfl⟩
 case round =>
  obtain ⟨rfl,rfl⟩:=hrel
  go_wp2_with fail
  exact bodyPost_ret (v:=.tuple #[]) (by simp [results,Tryz.results175,go_sem]) rfl ⟨rfl,Kept.refl _ _⟩
theorem ajF (f:Value) (n:Int) (w:World):Calls Tryz.prog 116 #[.slice none 0 0,.int .i64 0,.int .i64 0,.int .i64 n,f] w (Done w):=by
 go_enter Tryz.func116, Tryz.ntmps116
 go_wp2_with fail
 go_loopw [1,2,3] (fun a b c wr=>a=.int .i64 0∧b=.int .i64 0∧c=.int .i64 n∧wr=w) (fun _ _ _ _=>0)
 case atStart=>exact ⟨rfl,rfl,rfl,rfl⟩
 case round =>
  obtain ⟨rfl,rfl,rfl,rfl⟩:=hrel
  go_wp2_with (go_at_call 175;(with_reducible refine (aeT f _).mono ?_);rintro e w1 ⟨rfl,k_⟩;have K1:=ah k_;clear k_)
  exact bodyPost_ret (v:=.tuple #[]) (by simp [results,Tryz.results116,go_sem]) rfl ⟨rfl,K1.out⟩
theorem ah1 (f:Value) (w:World):Calls Tryz.prog 75 #[.slice none 0 0,f] w (Done w):=by
 go_enter Tryz.func75, Tryz.ntmps75
 go_wp2_with (first
  | (go_at_call 117;(refine (Tryz.bits_Len 0 _ (by omega) (by omega)).mono ?_);rintro e w' ⟨rfl,aI⟩;obtain rfl:=aI.symm;clear aI)
  | (go_at_call 116;(with_reducible refine (ajF f _ _).mono ?_);rintro e w1 ⟨rfl,k_⟩;have K1:=ah k_;clear k_))
 exact bodyPost_ret (v:=.tuple #[]) (by simp [results,Tryz.results75,go_sem]) rfl ⟨rfl,K1.out⟩
end Go.Proofs.YtgoijmpahffnhaaGreatDoor
