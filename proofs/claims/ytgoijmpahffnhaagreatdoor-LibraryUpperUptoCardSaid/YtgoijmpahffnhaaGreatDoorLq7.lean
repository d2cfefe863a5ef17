/-  -/
import Derived.Test.YtgoijmpahffnhaaGreatDoorBase
import Derived.Maps.Own
import Derived.Maps.OwnOps
import Derived.Maps.OwnSet
import Derived.Maps.Views
namespace Go.Proofs.YtgoijmpahffnhaaGreatDoor
set_option linter.all false
open Go.RowKit Go.Maps Go.WideMaps
theorem qU:Keyed Tryz.prog 9:=string_keyed Tryz.underlying9
theorem Jv (w:World):(zeroValue 3).run Tryz.prog w=.ok (.int .i64 0) w:=by kernel_rfl
def eH (w:World) (B n:Nat) (m:aj→Option Int):Prop :=
 ∃D:DataW Unit,w.ownsMap Tryz.prog 9 (plainElem Tryz.prog 3) B n D∧IsMap D∧
  ∀s:aj,Maps.has D (.string s.data.toList)=(m s).isSome∧∀z,D.atKey (.string s.data.toList) z=match m s with|some c=>.lit (.int .i64 c)|none=>z
theorem eH.made (w:World):eH (w.alloc (.map #[] 0)) w.heap.size 0 (fun _=>none) :=
 ⟨.map [],World.ownsMap_made w _ _ _,⟨[],rfl⟩,fun s=>⟨rfl,fun z=>rfl⟩⟩
theorem eH.lt {w:World} {B n:Nat} {m:aj→Option Int} (h:eH w B n m):B<w.heap.size:=by
 obtain ⟨D,h,_⟩:=h;exact h.lt
theorem eH.kept {w w':World} {B n:Nat} {m:aj→Option Int} {X:Nat→Prop} (h:eH w B n m) (hk:Kept X w w') (hx:¬X B):eH w' B n m:=by
 have hlt:=h.lt
 obtain ⟨D,⟨es,clock,hb,F,hs,hD⟩,h2⟩:=h
 exact ⟨D,⟨es,clock,(hk.block B hlt hx).trans hb,F,hs,hD⟩,h2⟩
theorem mG {s t:aj} (h:s≠t):(Lit.string s.data.toList)≠.string t.data.toList:=by
 intro e
 simp only [Lit.string.injEq] at e
 apply h
 obtain ⟨x⟩:=s;obtain ⟨y⟩:=t
 have:x=y:=Array.toList_inj.1 e
 rw [this]
def lg (m:aj→Option Int) (k:aj) (c:Int):aj→Option Int:=fun s=>if s=k then some c else m s
theorem eH.look {w:World} {B n:Nat} {m:aj→Option Int} (h:eH w B n m) (s:aj) (hs:s.size≤maxLen) :
  (Instr.lookup 98 (.map (some B)) (.string s) false).run Tryz.prog w=.ok (.int .i64 ((m s).getD 0)) w:=by
 obtain ⟨D,hown,hmap,hD⟩:=h
 obtain ⟨c,hrun,hat,_⟩:=hown.lookup_int qU Tryz.underlying98 Tryz.underlying3 (Jv w) (keyOf_string_mk Tryz.underlying9 hs)
 obtain ⟨h1,h2⟩:=hD s
 rw [h2] at hat
 rw [hrun]
 cases hms:m s with
 | none=>rw [hms] at hat;simp only [DataW.lit.injEq,Lit.int.injEq,true_and] at hat;subst hat;rfl
 | some d=>rw [hms] at hat;simp only [DataW.lit.injEq,Lit.int.injEq,true_and] at hat;subst hat;rfl
end Go.Proofs.YtgoijmpahffnhaaGreatDoor

namespace Go.Proofs.YtgoijmpahffnhaaGreatDoor
set_option linter.all false
open Go.RowKit
def Five (M:Nat) (c0 c1 c2 c3 c4:Value) (w:World):Prop:=w.heap[M]?=some (.cells #[c0,c1,c2,c3,c4] 57 (0,0))
def fP (w:World) (M:Nat) (c0 c1 c2 c3 c4:Value):World:=((((w.setCell ⟨M,0,none⟩ c0).setCell ⟨M,1,none⟩ c1).setCell ⟨M,2,none⟩ c2).setCell ⟨M,3,none⟩ c3).setCell ⟨M,4,none⟩ c4
end Go.Proofs.YtgoijmpahffnhaaGreatDoor
