/-  -/
import Derived.Test.YtgoijmpahffnhaaGreatDoorBase
import Derived.Deep.AppendSrc
import Derived.Deep.AppendLies
import Derived.Test.YtgoijmpahffnhaaGreatDoorWin
import Derived.Laws.IdiomStrings
namespace Go.Proofs.YtgoijmpahffnhaaGreatDoor
set_option linter.all false
open Go.RowKit
def dG (b:Nat) (t:TypeId) (vs:List Value) (w:World):Prop:=w.heap[b]?=some (.cells vs.toArray t (0,0))
section
variable {b:Nat} {t:TypeId} {vs:List Value} {w w':World}
theorem dG.lt (h:dG b t vs w):b<w.heap.size:=(Array.getElem?_eq_some_iff.1 h).1
theorem dG.kept {X:Nat→Prop} (h:dG b t vs w) (hk:Kept X w w') (hx:¬X b):dG b t vs w':=by
 unfold dG;rw [hk.block b h.lt hx];exact h
theorem dG.cell (h:dG b t vs w) {i:Nat} {v:Value} (hv:vs[i]?=some v):w.cell? ⟨b,i,none⟩=some v:=by
 unfold dG at h
 rw [cell_of_row w b _ _ _ _ h,←hv];simp
theorem dG.free (h:dG b t vs w) (i:Nat):w.frozen? ⟨b,i,none⟩=false:=by unfold dG at h;simp [World.frozen?,h]
theorem dG.set (h:dG b t vs w) (i:Nat) (v:Value):dG b t (vs.set i v) (w.setCell ⟨b,i,none⟩ v):=by
 unfold dG at *
 simp [World.setCell,Array.getElem?_modify,h]
theorem dG.new (w:World) (t:TypeId) (vs:List Value):dG w.heap.size t vs (w.alloc (.cells vs.toArray t)):=ay w _
end
theorem Ju {t e:TypeId} {w:World} {g:Nat} {vs:List Value} {n:Nat} (ht:Tryz.prog.underlying t=some (.slice e)) (size:Nat) (hl:vs.length=n*size) (h:w.heap[g]?=some (.cells vs.toArray e (0,0))) (h1:∀u∈vs,u.oneCell'=true) :
  Src Tryz.prog size t (.slice (some ⟨g,0,none⟩) n n) n vs w :=
 Src.ofSlice w ht _ _ _ _ hl (World.news_of_block (by simpa using h)) h1
end Go.Proofs.YtgoijmpahffnhaaGreatDoor

namespace Go.Proofs.YtgoijmpahffnhaaGreatDoor
set_option linter.all false
open Go.RowKit
def GZ (d:List UInt8):List Value:=d.map fun b=>Value.int .u8 (b.toNat:Int)
theorem afA:(Tryz.prog.info? 5).map (fun i=>(i.zero,i.size,i.bytes))=some (some (.int .u8 0),1,1):=by kernel_rfl
theorem aa7 {w:World} {B n c:Nat} {a:Option Addr} {d:List UInt8} (hW:aO w B 5 1 (.slice a n c) n (GZ d)) (hnd:n=d.length) :
  (convert 28 9 (.slice a n c)).run Tryz.prog w=.ok (.string ⟨d.toArray⟩) w:=by
 rcases hW.cells with ⟨hv,h0⟩|⟨g,o,cap,hv,_,_,_,_,hc⟩
 ·simp only [Value.slice.injEq] at hv
  obtain ⟨rfl,_,rfl⟩:=hv
  subst h0
  obtain rfl:d=[]:=List.eq_nil_of_length_eq_zero hnd.symm
  rw [run_convert_bytes_string w 28 9 5 none 0 0 Tryz.underlying28 Tryz.underlying5 Tryz.underlying9]
  simp [Conv.bytesToString]
  rfl
 ·simp only [Value.slice.injEq,true_and] at hv
  obtain ⟨rfl,rfl⟩:=hv
  subst hnd
  refine run_convert_bytes_back w 28 9 5 ⟨g,o,none⟩ c d Tryz.underlying28 Tryz.underlying5 Tryz.underlying9 fun j hj=>?_
  have e1:(⟨g,o,none⟩:Addr).add j=⟨g,o+j,none⟩:=by unfold Addr.add;split<;>simp_all
  rw [e1]
  exact (hc j _ (by simp [GZ,List.getElem?_eq_getElem hj])).1
theorem G7 {ops:Array Oper} {rest:List Oper} {o:Oper} {a:Act} {Q:Exit→Act→World→Prop} {w:World} (hgd:o.guard=none) (s x:Operand)
  (ho:o.op=.call {callee:=.builtin .append,args:=#[s,x],argTypes:=#[28,28]})
  (v:Value) (n:Nat) (d:List UInt8) (c:UInt8) (hnd:n=d.length) (hs:a.eval s=v) (B:Nat) (hown:aO w B 5 1 v n (GZ d)) (g:Nat) (hx:a.eval x=.slice (some ⟨g,0,none⟩) 1 1)
  (hg:w.heap[g]?=some (.cells #[.int .u8 (c.toNat:Int)] 5 (0,0))) (hn:d.length≤100000000) (hB:B≤w.heap.size)
  (h:∀a' c' n' w',Hid (n'=(d++[c]).length)→aO w' B 5 1 (.slice a' n' c') n' (GZ (d++[c]))→Kept (fun b=>B≤b) w w'→wpList Tryz.prog ops Q rest (a.put o.dst (.slice a' n' c')) w') :
  wpList Tryz.prog ops Q (o::rest) a w:=by
 obtain ⟨i0,hi0,hz0,hz1,hz2⟩:=info_parts afA
 have hsr:Src Tryz.prog 1 28 (.slice (some ⟨g,0,none⟩) 1 1) 1 [.int .u8 (c.toNat:Int)] w :=
  Src.ofSlice _ Tryz.underlying28 _ _ _ _ rfl (World.news_of_block (fr:=(0,0)) (cs:=#[.int .u8 (c.toNat:Int)]) hg) (by intro u hu;simp only [List.mem_singleton] at hu;subst hu;rfl)
 refine dM w hgd s x _ _ ho B 5 i0 (.int .u8 0) 1 1 Tryz.underlying28 hi0 hz0 hz1 hz2 rfl v n (GZ d) hs hown _ 1 _ hx hsr (by unfold maxLen;omega) (by omega) hB ?_
 intro a' c' w' hW hgr _
 have e:GZ d++[Value.int .u8 (c.toNat:Int)]=GZ (d++[c]):=by simp [GZ]
 rw [e] at hW
 exact h a' c' _ w' (by unfold Hid;rw [List.length_append,hnd];rfl) hW ((Kept.refl _ w).grown hgr fun k hk=>.inl (hown.lt k hk).1)
end Go.Proofs.YtgoijmpahffnhaaGreatDoor
