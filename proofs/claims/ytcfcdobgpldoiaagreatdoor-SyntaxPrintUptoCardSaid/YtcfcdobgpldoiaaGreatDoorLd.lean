/- A statement is loaded, stored: as one step each (24 cells by simp are too much for the kernel). -/
import Derived.Test.YtcfcdobgpldoiaaGreatDoorErl
namespace Go.Proofs.YtcfcdobgpldoiaaGreatDoor
set_option linter.all false
open Go.RowKit

theorem infoSt : (Tryz.prog.info? 33).map (·.size) = some 24 := by kernel_rfl
set_option maxRecDepth 100000 in
theorem loadSt {w : World} {b o : Nat} {sa : StA} {s : StT} (hc : ∀ i (h : i < 24), w.cell? ⟨b, o + i, none⟩ = some ((stCells sa s)[i]'(by simpa [stCells] using h))) :
    (Instr.loadAt 33 (.pointer (some ⟨b, o, none⟩))).run Tryz.prog w = .ok (stVal sa s) w := by
  have h1 := run_loadCells_list (P := Tryz.prog) w ⟨b, o, none⟩ (stCells sa s) (fun j v hv => by
    obtain ⟨hlt, rfl⟩ := List.getElem?_eq_some_iff.1 hv
    have e1 : (⟨b, o, none⟩ : Addr).add j = ⟨b, o + j, none⟩ := by unfold Addr.add; split <;> simp_all
    rw [e1]; exact hc j (by simpa [stCells] using hlt))
  have hag : (isAgg 33).run Tryz.prog w = .ok true w := by kernel_rfl
  have hsz : (sizeOf 33).run Tryz.prog w = .ok 24 w := by kernel_rfl
  have hlen : (stCells sa s).length = 24 := rfl
  rw [hlen] at h1
  unfold Instr.loadAt loadVar
  simp only [Instr.sureAddr, Sem.run_bind, Sem.run_pure, Result.andThen_ok, hag, hsz, h1, if_true]
  rfl
set_option maxRecDepth 100000 in
theorem storeSt {w : World} {g : Nat} {old : Array Value} {sa : StA} {s : StT} (hg : w.heap[g]? = some (.cells old 33 (0, 0))) (ho : old.size = 24) :
    ∃ w', (Instr.storeAt 33 (.pointer (some ⟨g, 0, none⟩)) (stVal sa s)).run Tryz.prog w = .ok () w' ∧ StB g sa s w' ∧ Kept (· = g) w w' := by
  have h := run_storeVar_row (P := Tryz.prog) w g 33 33 old (stCells sa s).toArray hg (by kernel_rfl) (by rw [ho]; rfl) (by simp [stCells, Value.oneCell'])
  refine ⟨_, h, ?_, ?_⟩
  · exact setRow_heap w g old _ _ _ hg
  · exact ⟨rfl, rfl, rfl, by simp, fun k _ hx => setRow_other w g k _ hx⟩
theorem wpList_load_st {ops : Array Oper} {rest : List Oper} {o : Oper} {a : Act} {Q : Exit → Act → World → Prop} {w : World} (hgd : o.guard = none) (p : Operand) (ho : o.op = .load 33 p)
    (b of : Nat) (hp : a.eval p = .pointer (some ⟨b, of, none⟩)) (sa : StA) (s : StT) (hc : ∀ i (h : i < 24), w.cell? ⟨b, of + i, none⟩ = some ((stCells sa s)[i]'(by simpa [stCells] using h)))
    (h : wpList Tryz.prog ops Q rest (a.put o.dst (stVal sa s)) w) : wpList Tryz.prog ops Q (o :: rest) a w := by
  refine wpList_plain hgd fun K hK => ?_
  have hr : (execOp a.eval o).run Tryz.prog w = .ok (.value (stVal sa s)) w := by
    unfold execOp
    rw [ho]
    simp only [hp, Sem.run_bind, loadSt hc, Result.andThen_ok, Sem.run_pure]
  unfold Oper.wp
  rw [hr]
  exact hK _ _ h
theorem wpList_store_st {ops : Array Oper} {rest : List Oper} {o : Oper} {a : Act} {Q : Exit → Act → World → Prop} {w : World} (hgd : o.guard = none) (p x : Operand) (ho : o.op = .store 33 p x)
    (g : Nat) (hp : a.eval p = .pointer (some ⟨g, 0, none⟩)) (sa : StA) (s : StT) (hx : a.eval x = stVal sa s) (old : Array Value) (hg : w.heap[g]? = some (.cells old 33 (0, 0))) (hold : old.size = 24)
    (h : ∀ w', StB g sa s w' → Kept (· = g) w w' → wpList Tryz.prog ops Q rest (a.put o.dst undef) w') : wpList Tryz.prog ops Q (o :: rest) a w := by
  refine wpList_plain hgd fun K hK => ?_
  obtain ⟨w', hr, hB, hk⟩ := storeSt (sa := sa) (s := s) hg hold
  have hr2 : (execOp a.eval o).run Tryz.prog w = .ok .skip w' := by
    unfold execOp
    rw [ho]
    simp only [hp, hx, Sem.run_bind, hr, Result.andThen_ok, Sem.run_pure]
  unfold Oper.wp
  rw [hr2]
  exact hK _ _ (h w' hB hk)
end Go.Proofs.YtcfcdobgpldoiaaGreatDoor
