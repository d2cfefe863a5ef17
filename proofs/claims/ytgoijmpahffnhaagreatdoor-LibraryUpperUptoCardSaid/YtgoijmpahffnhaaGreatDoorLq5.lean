/-  -/
import Derived.Test.YtgoijmpahffnhaaGreatDoorBase
import Derived.Test.YtgoijmpahffnhaaGreatDoorWin
namespace Go.Proofs.YtgoijmpahffnhaaGreatDoor
set_option linter.all false
open Go.RowKit
def Fl (N:Nat) (a b:Int) (w:World):Prop:=w.heap[N]?=some (.cells #[.int .i64 a,.int .i64 b] 39 (0,0))
theorem Fl.lt {N:Nat} {a b:Int} {w:World} (h:Fl N a b w):N<w.heap.size:=(Array.getElem?_eq_some_iff.1 h).1
theorem Fl.kept {N:Nat} {a b:Int} {w w':World} {X:Nat→Prop} (h:Fl N a b w) (hk:Kept X w w') (hx:¬X N):Fl N a b w':=by
 unfold Fl;rw [hk.block N h.lt hx];exact h
theorem Fl.cells {N:Nat} {a b:Int} {w:World} (h:Fl N a b w):w.cell? ⟨N,0,none⟩=some (.int .i64 a)∧w.cell? ⟨N,1,none⟩=some (.int .i64 b)∧w.frozen? ⟨N,0,none⟩=false∧w.frozen? ⟨N,1,none⟩=false:=by
 unfold Fl at h
 exact ⟨by rw [cell_of_row w N _ _ _ _ h];rfl,by rw [cell_of_row w N _ _ _ _ h];rfl,by simp [World.frozen?,h],by simp [World.frozen?,h]⟩
theorem Fl.set {N:Nat} {a b:Int} {w:World} (h:Fl N a b w) (c d:Int):Fl N c d ((w.setCell ⟨N,0,none⟩ (.int .i64 c)).setCell ⟨N,1,none⟩ (.int .i64 d)):=by
 unfold Fl at *
 simp [World.setCell,Array.getElem?_modify,h]
theorem tV {f:Func} {tmps:Array Value} {v:Value} {w2:World} {F:Nat} {a b:Int} {Q:Ending→World→Prop} (hres:f.results = #[.tmp 2,.cell 3 39]) (h2:tmps.getD 2 undef=v) (h3:tmps.getD 3 undef=.pointer (some ⟨F,0,none⟩)) (hF:Fl F a b w2)
  (hq:Q (.returned (.tuple #[v,.agg #[.int .i64 a,.int .i64 b]])) w2):bodyPost Tryz.prog f Q .ret ⟨tmps,[]⟩ w2:=by
 obtain ⟨h0,h1,_,_⟩:=hF.cells
 have ht2:tmps[2]?.getD undef=v:=by rw [←h2,Array.getD_eq_getD_getElem?]
 have ht3:tmps[3]?.getD undef=.pointer (some ⟨F,0,none⟩):=by rw [←h3,Array.getD_eq_getD_getElem?]
 exact bodyPost_ret (v:=.tuple #[v,.agg #[.int .i64 a,.int .i64 b]]) (by simp [results,hres,go_sem,ht2,ht3,h0,h1]) rfl hq
end Go.Proofs.YtgoijmpahffnhaaGreatDoor

namespace Go.Proofs.YtgoijmpahffnhaaGreatDoor
set_option linter.all false
open Go.RowKit
theorem jd {N:Nat} {w:World} {o:Obj} (h:N=w.heap.size):(w.alloc o).heap[N]?=some o:=by subst h;exact ay w _
end Go.Proofs.YtgoijmpahffnhaaGreatDoor
