/-  -/
import Derived.Test.YtgoijmpahffnhaaGreatDoorRows
import Derived.Test.YtgoijmpahffnhaaGreatDoorLq4
import Derived.Deep.Slices
import Derived.ProofKit
import Derived.OpenShut
namespace Go.Proofs.YtgoijmpahffnhaaGreatDoor
set_option linter.all false
open Go.RowKit Go.Deep
theorem Tn {H:Type} (d:DataW H):1≤Rows.uptoBulk d:=by
 cases d with
 | lit l=>cases l<;>simp [Rows.uptoBulk]
 | nil=>simp [Rows.uptoBulk]
 | ptr d=>simp [Rows.uptoBulk]
 | slice elems spare=>simp [Rows.uptoBulk]
 | agg parts=>simp [Rows.uptoBulk]
 | iface t d=>simp [Rows.uptoBulk]
 | map entries=>simp [Rows.uptoBulk]
 | held h=>simp [Rows.uptoBulk]
theorem Tj {H:Type} (s:aj):Rows.uptoBulk (DataW.lit (H:=H) (.string s.data.toList))=s.size+1:=by
 simp only [Rows.uptoBulk];rfl
theorem AA {H:Type}:∀(l:List (DataW H)),l.length≤Rows.uptoBulkAll l
 | []=>by simp [Rows.uptoBulkAll]
 | x::r=>by have:=Tn x;have:=AA r;simp only [Rows.uptoBulkAll,List.length_cons];omega
section
variable {H:Type} {enc:TypeId×Value→H} {w:World} {spare:Nat→Bool} {held:Bool}
theorem cells_lt {a:Addr} {v:Value} (h:w.cell? a=some v):a.block<w.heap.size:=by
 unfold World.cell? at h
 cases hb:w.heap[a.block]? with
 | none=>rw [hb] at h;simp at h
 | some o=>exact (Array.getElem?_eq_some_iff.1 hb).1
theorem Jg (f:Nat→Nat):∀(l:List Nat) (i:Nat),i∈l→f i≤(l.map f).sum
 | [],i,h=>by simp at h
 | j::r,i,h=>by
  rw [List.map_cons,List.sum_cons]
  rcases List.mem_cons.1 h with rfl|h
  ·omega
  ·have:=Jg f r i h;omega
theorem QD (D:Nat→DataW H):∀(l:List Nat),(l.map fun i=>Rows.uptoBulk (D i)).sum=Rows.uptoBulkAll (l.map D)
 | []=>by simp [Rows.uptoBulkAll]
 | i::r=>by simp only [List.map_cons,List.sum_cons,Rows.uptoBulkAll,QD D r]
end
end Go.Proofs.YtgoijmpahffnhaaGreatDoor
