/- A list of statements that a call makes: rows of 24 cells. -/
import Derived.Test.YtkhhinmhgjicgaaDead
import Derived.Test.YtkhhinmhgjicgaaLd
namespace Go.Proofs.Ytkhhinmhgjicgaa
set_option linter.all false
open Go.RowKit

def stZero : Value := .agg #[.string ⟨#[]⟩, .int .i64 0, .int .i64 0, .string ⟨#[]⟩, .int .i64 0, .string ⟨#[]⟩, .slice none 0 0, .int .i64 0, .string ⟨#[]⟩, .int .i64 0, .string ⟨#[]⟩, .slice none 0 0, .int .i64 0, .string ⟨#[]⟩, .int .i64 0, .string ⟨#[]⟩, .slice none 0 0, .string ⟨#[]⟩, .string ⟨#[]⟩, .slice none 0 0, .slice none 0 0, .string ⟨#[]⟩, .string ⟨#[]⟩, .string ⟨#[]⟩]
theorem infoStZ : (Try.prog.info? 41).map (fun i => (i.zero, i.size, i.bytes)) = some (some stZero, 24, 368) := by kernel_rfl
theorem stCells_len (sa : StA) (s : StT) : (stCells sa s).length = 24 := rfl
set_option maxRecDepth 100000 in
theorem buildSt (w : World) (sa : StA) (s : StT) : (Instr.buildSlice 22 1 #[(0, stVal sa s)]).run Try.prog w = .ok (.slice (some ⟨w.heap.size, 0, none⟩) 1 1) (w.alloc (.cells (stCells sa s).toArray 41)) := by kernel_rfl
theorem wpList_build_st {ops : Array Oper} {rest : List Oper} {o : Oper} {a : Act} {Q : Exit → Act → World → Prop} {w : World} (hgd : o.guard = none) (x : Operand) (ho : o.op = .buildSlice 22 1 #[(0, x)])
    (sa : StA) (s : StT) (hx : a.eval x = stVal sa s)
    (h : ∀ w', StB w.heap.size sa s w' → Kept Nix w w' → wpList Try.prog ops Q rest (a.put o.dst (.slice (some ⟨w.heap.size, 0, none⟩) 1 1)) w') : wpList Try.prog ops Q (o :: rest) a w := by
  refine wpList_plain hgd fun K hK => ?_
  have hr : (execOp a.eval o).run Try.prog w = .ok (.value (.slice (some ⟨w.heap.size, 0, none⟩) 1 1)) (w.alloc (.cells (stCells sa s).toArray 41)) := by
    unfold execOp
    rw [ho]
    simp only [List.map_toArray, List.map_cons, List.map_nil, hx, Sem.run_bind, buildSt w sa s, Result.andThen_ok, Sem.run_pure]
  unfold Oper.wp
  rw [hr]
  exact hK _ _ (h _ (heap_alloc_new w _) ((Kept.refl Nix w).alloc _))
theorem st_src {w : World} {g : Nat} {sa : StA} {s : StT} (h : StB g sa s w) : Src Try.prog 24 22 (.slice (some ⟨g, 0, none⟩) 1 1) 1 (stCells sa s) w := by
  have h' : w.heap[g]? = some (.cells (stCells sa s).toArray 41 (0, 0)) := h
  refine Src.ofSlice w Try.underlying22 _ _ _ _ rfl (World.news_of_block (fr := (0, 0)) h') (by intro u hu; simp [stCells] at hu; rcases hu with rfl | rfl | rfl | rfl | rfl | rfl | rfl | rfl | rfl | rfl | rfl | rfl | rfl | rfl | rfl | rfl | rfl | rfl | rfl | rfl | rfl | rfl | rfl | rfl <;> rfl)
def Row24 (w : World) (S : Nat → Prop) : List Value → List StT → Prop
  | cs, [] => cs = []
  | cs, s :: q => ∃ sa rest, cs = stCells sa s ++ rest ∧ StSz s ∧ StOk w S sa s ∧ Row24 w S rest q
theorem Row24.append {w : World} {S : Nat → Prop} : ∀ {l l' : List StT} {cs cs' : List Value}, Row24 w S cs l → Row24 w S cs' l' → Row24 w S (cs ++ cs') (l ++ l')
  | [], _, cs, _, h, h' => by rw [Row24] at h; subst h; exact h'
  | p :: ps, _, cs, _, h, h' => by
    rw [Row24] at h; obtain ⟨sa, r, rfl, hz, h1, h2⟩ := h
    rw [List.append_assoc, List.cons_append, Row24]
    exact ⟨sa, _, rfl, hz, h1, h2.append h'⟩
theorem Row24.one {w : World} {S : Nat → Prop} {sa : StA} {s : StT} (hz : StSz s) (ho : StOk w S sa s) : Row24 w S (stCells sa s) [s] := by
  rw [Row24]; exact ⟨sa, [], (List.append_nil _).symm, hz, ho, rfl⟩
theorem Row24.kept {w w' : World} {S : Nat → Prop} {X : Nat → Prop} : ∀ {l : List StT} {cs : List Value}, Row24 w S cs l → Kept X w w' → Safe S X w.heap.size → Row24 w' S cs l
  | [], _, h, _, _ => h
  | p :: ps, cs, h, hk, hs => by
    rw [Row24] at h ⊢; obtain ⟨sa, r, rfl, hz, h1, h2⟩ := h
    exact ⟨sa, r, rfl, hz, h1.to hk hs (fun _ h => h), h2.kept hk hs⟩
theorem Row24.at {w : World} {S S' : Nat → Prop} {g : Nat} (hlt : Safe S Nix w.heap.size) (hS : ∀ b, S b → S' b) (hg : S' g) : ∀ {l : List StT} {cs : List Value} {o : Nat}, Row24 w S cs l → (∀ j u, cs[j]? = some u → w.cell? ⟨g, o + j, none⟩ = some u) → ∀ i (h : i < l.length), StAt w S' g (o + i * 24) l[i]
  | [], _, _, _, _, i, h => by simp at h
  | p :: ps, cs, o, h, hc, i, hi => by
    rw [Row24] at h; obtain ⟨sa, r, rfl, hz, h1, h2⟩ := h
    cases i with
    | zero =>
      rw [Nat.zero_mul, Nat.add_zero]
      refine ⟨sa, hg, hz, fun j hj => hc j _ ?_, h1.to (Kept.refl Nix w) hlt hS⟩
      rw [List.getElem?_append_left (by rw [stCells_len]; exact hj), List.getElem?_eq_getElem (by rw [stCells_len]; exact hj)]; rfl
    | succ i =>
      have h3 := h2.at hlt hS hg (o := o + 24) (fun j u hu => by
        have := hc (24 + j) u (by rw [List.getElem?_append_right (by rw [stCells_len]; omega), stCells_len, Nat.add_sub_cancel_left]; exact hu)
        rw [← Nat.add_assoc] at this; exact this) i (by simpa using hi)
      rw [show o + (i + 1) * 24 = o + 24 + i * 24 by omega]
      simpa using h3
/-- The list that is made, as a list of statements. -/
theorem Win.sts {w : World} {B : Nat} {S S' : Nat → Prop} {v : Value} {l : List StT} {cs : List Value} (h : Win w B 41 24 v l.length cs) (hr : Row24 w S cs l) (hlt : Safe S Nix w.heap.size) (hS : ∀ b, S b → S' b) (hN : ∀ g, v.ownBlock = some g → S' g) : ∃ a c, v = .slice a l.length c ∧ StsAt w S' a l := by
  rcases h.cells with ⟨rfl, h0⟩ | ⟨g, o, c, rfl, _, hg, _, _, hc⟩
  · exact ⟨none, 0, by rw [h0], fun h => by omega⟩
  · exact ⟨_, c, rfl, fun _ => ⟨g, o, rfl, hr.at hlt hS (hN g rfl) fun j u hu => (hc j u hu).1⟩⟩
end Go.Proofs.Ytkhhinmhgjicgaa
