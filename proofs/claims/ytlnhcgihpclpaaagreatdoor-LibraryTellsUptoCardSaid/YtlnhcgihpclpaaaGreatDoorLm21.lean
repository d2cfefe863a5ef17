/- A list of statements that a call makes: rows of 24 cells. The program's reader of lines: a statement that is being read; depth. -/
import Derived.Test.YtlnhcgihpclpaaaGreatDoorLm1
import Derived.Test.YtlnhcgihpclpaaaGreatDoorLm20
import Derived.Test.YtlnhcgihpclpaaaGreatDoorLm19
namespace Go.Proofs.YtlnhcgihpclpaaaGreatDoor
set_option linter.all false
open Go.RowKit

def stZero : Value := .agg #[.string ⟨#[]⟩, .int .i64 0, .int .i64 0, .string ⟨#[]⟩, .int .i64 0, .string ⟨#[]⟩, .slice none 0 0, .int .i64 0, .string ⟨#[]⟩, .int .i64 0, .string ⟨#[]⟩, .slice none 0 0, .int .i64 0, .string ⟨#[]⟩, .int .i64 0, .string ⟨#[]⟩, .slice none 0 0, .string ⟨#[]⟩, .string ⟨#[]⟩, .slice none 0 0, .slice none 0 0, .string ⟨#[]⟩, .string ⟨#[]⟩, .string ⟨#[]⟩]
theorem infoStZ : (Tryz.prog.info? 49).map (fun i => (i.zero, i.size, i.bytes)) = some (some stZero, 24, 368) := by kernel_rfl
theorem stCells_len (sa : StA) (s : StT) : (stCells sa s).length = 24 := rfl
set_option maxRecDepth 100000 in
theorem buildSt (w : World) (sa : StA) (s : StT) : (Instr.buildSlice 28 1 #[(0, stVal sa s)]).run Tryz.prog w = .ok (.slice (some ⟨w.heap.size, 0, none⟩) 1 1) (w.alloc (.cells (stCells sa s).toArray 49)) := by kernel_rfl
theorem wpList_build_st {ops : Array Oper} {rest : List Oper} {o : Oper} {a : Act} {Q : Exit → Act → World → Prop} {w : World} (hgd : o.guard = none) (x : Operand) (ho : o.op = .buildSlice 28 1 #[(0, x)])
    (sa : StA) (s : StT) (hx : a.eval x = stVal sa s)
    (h : ∀ w', StB w.heap.size sa s w' → Kept Nix w w' → wpList Tryz.prog ops Q rest (a.put o.dst (.slice (some ⟨w.heap.size, 0, none⟩) 1 1)) w') : wpList Tryz.prog ops Q (o :: rest) a w := by
  refine wpList_plain hgd fun K hK => ?_
  have hr : (execOp a.eval o).run Tryz.prog w = .ok (.value (.slice (some ⟨w.heap.size, 0, none⟩) 1 1)) (w.alloc (.cells (stCells sa s).toArray 49)) := by
    unfold execOp
    rw [ho]
    simp only [List.map_toArray, List.map_cons, List.map_nil, hx, Sem.run_bind, buildSt w sa s, Result.andThen_ok, Sem.run_pure]
  unfold Oper.wp
  rw [hr]
  exact hK _ _ (h _ (heap_alloc_new w _) ((Kept.refl Nix w).alloc _))
theorem st_src {w : World} {g : Nat} {sa : StA} {s : StT} (h : StB g sa s w) : Src Tryz.prog 24 28 (.slice (some ⟨g, 0, none⟩) 1 1) 1 (stCells sa s) w := by
  have h' : w.heap[g]? = some (.cells (stCells sa s).toArray 49 (0, 0)) := h
  refine Src.ofSlice w Tryz.underlying28 _ _ _ _ rfl (World.news_of_block (fr := (0, 0)) h') (by intro u hu; simp [stCells] at hu; rcases hu with rfl | rfl | rfl | rfl | rfl | rfl | rfl | rfl | rfl | rfl | rfl | rfl | rfl | rfl | rfl | rfl | rfl | rfl | rfl | rfl | rfl | rfl | rfl | rfl <;> rfl)
def Row24 (w : World) (S : Nat → Prop) : List Value → List StT → Prop
  | cs, [] => cs = []
  | cs, s :: q => ∃ sa rest, cs = stCells sa s ++ rest ∧ StSz s ∧ StOk w S sa s ∧ Row24 w S rest q
theorem Row24.append {w : World} {S : Nat → Prop} : ∀ {l l' : List StT} {cs cs' : List Value}, Row24 w S cs l → Row24 w S cs' l' → Row24 w S (cs ++ cs') (l ++ l')
  | [], _, cs, _, h, h' => by rw [Row24] at h; subst h; exact h'
  | p :: ps, _, cs, _, h, h' => by
    rw [Row24] at h; obtain ⟨sa, r, rfl, hz, h1, h2⟩ := h
    rw [List.append_assoc, List.cons_append, Row24]
    exact ⟨sa, _, rfl, hz, h1, h2.append h'⟩
theorem Row24.one {w : World} {S : Nat → Prop} {sa : StA} {s : StT} (hz : StSz s) (ho : StOk w S sa s) : Row24 w S (stCells sa s) [s] := by
  rw [Row24]; exact ⟨sa, [], (List.append_nil _).symm, hz, ho, rfl⟩
theorem Row24.kept {w w' : World} {S : Nat → Prop} {X : Nat → Prop} : ∀ {l : List StT} {cs : List Value}, Row24 w S cs l → Kept X w w' → Safe S X w.heap.size → Row24 w' S cs l
  | [], _, h, _, _ => h
  | p :: ps, cs, h, hk, hs => by
    rw [Row24] at h ⊢; obtain ⟨sa, r, rfl, hz, h1, h2⟩ := h
    exact ⟨sa, r, rfl, hz, h1.to hk hs (fun _ h => h), h2.kept hk hs⟩
theorem Row24.at {w : World} {S S' : Nat → Prop} {g : Nat} (hlt : Safe S Nix w.heap.size) (hS : ∀ b, S b → S' b) (hg : S' g) : ∀ {l : List StT} {cs : List Value} {o : Nat}, Row24 w S cs l → (∀ j u, cs[j]? = some u → w.cell? ⟨g, o + j, none⟩ = some u) → ∀ i (h : i < l.length), StAt w S' g (o + i * 24) l[i]
  | [], _, _, _, _, i, h => by simp at h
  | p :: ps, cs, o, h, hc, i, hi => by
    rw [Row24] at h; obtain ⟨sa, r, rfl, hz, h1, h2⟩ := h
    cases i with
    | zero =>
      rw [Nat.zero_mul, Nat.add_zero]
      refine ⟨sa, hg, hz, fun j hj => hc j _ ?_, h1.to (Kept.refl Nix w) hlt hS⟩
      rw [List.getElem?_append_left (by rw [stCells_len]; exact hj), List.getElem?_eq_getElem (by rw [stCells_len]; exact hj)]; rfl
    | succ i =>
      have h3 := h2.at hlt hS hg (o := o + 24) (fun j u hu => by
        have := hc (24 + j) u (by rw [List.getElem?_append_right (by rw [stCells_len]; omega), stCells_len, Nat.add_sub_cancel_left]; exact hu)
        rw [← Nat.add_assoc] at this; exact this) i (by simpa using hi)
      rw [show o + (i + 1) * 24 = o + 24 + i * 24 by omega]
      simpa using h3
/-- The list that is made, as a list of statements. -/
theorem Win.sts {w : World} {B : Nat} {S S' : Nat → Prop} {v : Value} {l : List StT} {cs : List Value} (h : Win w B 49 24 v l.length cs) (hr : Row24 w S cs l) (hlt : Safe S Nix w.heap.size) (hS : ∀ b, S b → S' b) (hN : ∀ g, v.ownBlock = some g → S' g) : ∃ a c, v = .slice a l.length c ∧ StsAt w S' a l := by
  rcases h.cells with ⟨rfl, h0⟩ | ⟨g, o, c, rfl, _, hg, _, _, hc⟩
  · exact ⟨none, 0, by rw [h0], fun h => by omega⟩
  · exact ⟨_, c, rfl, fun _ => ⟨g, o, rfl, hr.at hlt hS (hN g rfl) fun j u hu => (hc j u hu).1⟩⟩
end Go.Proofs.YtlnhcgihpclpaaaGreatDoor

namespace Go.Proofs.YtlnhcgihpclpaaaGreatDoor
set_option linter.all false
open Go.RowKit

theorem zero_sz : PatSz zeroT := ⟨⟨by decide, by decide, by decide⟩, by simp [zeroT, sizeT, sizeL]⟩
theorem st0_sz {lb : ByteArray} (h : lb.size < 1000000000) : StSz { st0 with label := lb } :=
  by
  have e0 : E0.size < 1000000000 := by decide
  have en : ([] : List ByteArray).length < 1000000000 := by decide
  exact ⟨h, zero_sz, zero_sz, zero_sz, e0, e0, ⟨en, fun x hx => by cases hx⟩, ⟨en, fun x hx => by cases hx⟩, e0, e0, e0⟩
theorem StB.free {N : Nat} {a : StA} {s : StT} {w : World} (h : StB N a s w) (o : Nat) : w.frozen? ⟨N, o, none⟩ = false := by
  unfold StB at h; simp [World.frozen?, h]
/-- A statement that is being read: at block M; what it calls its own lies behind. -/
structure SbI (N T en M : Nat) (s : StT) (l : List LTok) (w : World) : Prop where
  rdr : PsR N T en l 0 w
  st : ∃ a S, StB M a s w ∧ StOk w S a s ∧ ∀ b, S b → M < b ∧ b < w.heap.size
  sz : StSz s
  lt : N < M ∧ T < M
  few : l.length ≤ 100000
theorem SbI.rdr_to {N T en M : Nat} {s : StT} {l l2 : List LTok} {w w2 : World} (h : SbI N T en M s l w) (hk : Kept (· = N) w w2) (hr : PsR N T en l2 0 w2) (hl : l2.length ≤ l.length) : SbI N T en M s l2 w2 := by
  obtain ⟨h1, ⟨a, S, h2, h3, h4⟩, h5, h6, h7⟩ := h
  exact ⟨hr, ⟨a, S, h2.kept hk (by omega), h3.to hk (fun b hb => ⟨(h4 b hb).2, by have := h4 b hb; omega⟩) (fun _ h => h), fun b hb => ⟨(h4 b hb).1, Nat.lt_of_lt_of_le (h4 b hb).2 hk.size⟩⟩, h5, h6, by omega⟩
theorem SbI.quiet {N T en M : Nat} {s : StT} {l : List LTok} {w w2 : World} (h : SbI N T en M s l w) (hk : Kept Nix w w2) : SbI N T en M s l w2 :=
  h.rdr_to (hk.more fun _ h => h.elim) (h.rdr.kept hk (fun h => h) (fun h => h)) (Nat.le_refl _)
theorem SbI.keptM {N T en M : Nat} {l : List LTok} {w : World} (h : PsR N T en l 0 w) (hlt : N < M ∧ T < M) {w2 : World} (hk : Kept (· = M) w w2) : PsR N T en l 0 w2 :=
  h.kept hk (by omega) (by omega) (by have := h.ltN; omega)
/-- What a function that reads a part of a statement answers. -/
def SbQ (N T en M : Nat) (res : TRes StT) (w : World) (e : Ending) (w' : World) : Prop :=
  Kept (fun b => b = N ∨ b = M) w w' ∧ match res with
    | .ok (s, r) => e = .returned (.tuple #[]) ∧ SbI N T en M s r w'
    | .error er => ThrewL er e
theorem SbQ.thrown {N T en M : Nat} {r : TRes StT} {w w2 w3 : World} {er : Er} (K : Kept (fun b => b = N ∨ b = M) w w2) (k : Kept (· = N) w2 w3) (hr : r = .error er) : SbQ N T en M r w (.panicked [{ v := lineOops er, recovered := false }]) w3 := by
  subst hr; exact ⟨K.trans (k.more (fun _ h => .inl h)), rfl⟩
theorem SbQ.done {N T en M : Nat} {r : TRes StT} {w w2 : World} {s : StT} {l : List LTok} (K : Kept (fun b => b = N ∨ b = M) w w2) (h : SbI N T en M s l w2) (hr : r = .ok (s, l)) : SbQ N T en M r w (.returned (.tuple #[])) w2 := by
  subst hr; exact ⟨K, rfl, h⟩
theorem SbQ.ok {N T en M : Nat} {r : TRes StT} {w w' : World} {s : StT} {l : List LTok} {e : Ending} (h : SbQ N T en M r w e w') (hr : r = .ok (s, l)) : Kept (fun b => b = N ∨ b = M) w w' ∧ e = .returned (.tuple #[]) ∧ SbI N T en M s l w' := by
  subst hr; exact ⟨h.1, h.2.1, h.2.2⟩
theorem SbQ.bad {N T en M : Nat} {r : TRes StT} {w w' : World} {er : Er} {e : Ending} (h : SbQ N T en M r w e w') (hr : r = .error er) : Kept (fun b => b = N ∨ b = M) w w' ∧ ThrewL er e := by
  subst hr; exact h
theorem LabelLQ.ok {N T en d : Nat} {l r : List LTok} {w w' : World} {e : Ending} {x : ByteArray} (h : LabelLQ N T en l d w e w') (hr : labelT en l = .ok (x, r)) : Kept (· = N) w w' ∧ e = .returned (.string x) ∧ PsR N T en r d w' := by
  unfold LabelLQ at h; rw [hr] at h; exact ⟨h.1, h.2.1, h.2.2⟩
theorem LabelLQ.bad {N T en d : Nat} {l : List LTok} {w w' : World} {e : Ending} {er : Er} (h : LabelLQ N T en l d w e w') (hr : labelT en l = .error er) : Kept (· = N) w w' ∧ ThrewL er e := by
  unfold LabelLQ at h; rw [hr] at h; exact h
theorem PatLQ.ok {N T en d : Nat} {l r : List LTok} {w w' : World} {e : Ending} {p : PatT} (h : PatLQ N T en l d w e w') (hr : patT en l = .ok (p, r)) :
    Kept (· = N) w w' ∧ PsR N T en r d w' ∧ ∃ S ka cap, e = .returned (.agg #[.int .i64 p.kind, .string p.text, .int .i64 p.n, .string p.name, .slice ka p.kids.length cap]) ∧ (∀ b, S b → w.heap.size ≤ b ∧ b < w'.heap.size) ∧ (p.text.size < 1000000000 ∧ p.name.size < 1000000000 ∧ p.kids.length < 1000000000) ∧ PatsAt w' S ka p.kids := by
  unfold PatLQ at h; rw [hr] at h
  obtain ⟨k, ⟨v, rfl, S, hS, ka, cap, rfl, hz, hk⟩, hp⟩ := h
  exact ⟨k, hp, S, ka, cap, rfl, hS, hz, hk⟩
theorem PatLQ.bad {N T en d : Nat} {l : List LTok} {w w' : World} {e : Ending} {er : Er} (h : PatLQ N T en l d w e w') (hr : patT en l = .error er) : Kept (· = N) w w' ∧ ThrewL er e := by
  unfold PatLQ at h; rw [hr] at h; exact h
theorem NamesLQ.ok {N T en d : Nat} {res : TRes (List ByteArray)} {ns : List ByteArray} {r : List LTok} {w w' : World} {e : Ending} (h : NamesLQ N T en d res w e w') (hr : res = .ok (ns, r)) :
    Kept (· = N) w w' ∧ PsR N T en r d w' ∧ ∃ a c, e = .returned (.slice a ns.length c) ∧ Win w' w.heap.size 9 1 (.slice a ns.length c) ns.length (strR ns) := by
  subst hr
  obtain ⟨k, ⟨a, c, rfl, hw⟩, hp⟩ := h
  exact ⟨k, hp, a, c, rfl, hw⟩
theorem NamesLQ.bad {N T en d : Nat} {res : TRes (List ByteArray)} {w w' : World} {e : Ending} {er : Er} (h : NamesLQ N T en d res w e w') (hr : res = .error er) : Kept (· = N) w w' ∧ ThrewL er e := by
  subst hr; exact h
theorem setM {w : World} {M i : Nat} {v : Value} : Kept (· = M) w (w.setCell ⟨M, i, none⟩ v) := (Kept.refl (· = M) w).setCell (p := ⟨M, i, none⟩) (.inl rfl) v
theorem SbI.setLabel {N T en M : Nat} {s : StT} {l : List LTok} {w : World} (h : SbI N T en M s l w) (x : ByteArray) (hx : x.size < 1000000000) : SbI N T en M { s with label := x } l (w.setCell ⟨M, 0, none⟩ (.string x)) := by
  obtain ⟨h1, ⟨a, S, h2, h3, h4⟩, h5, h6, h7⟩ := h
  have hB : StB M a { s with label := x } (w.setCell ⟨M, 0, none⟩ (.string x)) := by unfold StB at h2 ⊢; rw [row_setCell h2 _]; rfl
  have h3' := h3.to (S' := S) (setM (w := w) (M := M) (i := 0) (v := .string x)) (fun b hb => ⟨(h4 b hb).2, by have := h4 b hb; omega⟩) (fun _ h => h)
  exact ⟨SbI.keptM h1 h6 setM, ⟨a, S, hB, ⟨h3'.target, h3'.value, h3'.pat, h3'.params, h3'.locals⟩, fun b hb => ⟨(h4 b hb).1, Nat.lt_of_lt_of_le (h4 b hb).2 (setM (w := w) (M := M) (i := 0) (v := .string x)).size⟩⟩, ⟨hx, h5.target, h5.value, h5.pat, h5.name, h5.entry, h5.params, h5.locals, h5.always, h5.yes, h5.noes⟩, h6, h7⟩
theorem SbI.setKind {N T en M : Nat} {s : StT} {l : List LTok} {w : World} (h : SbI N T en M s l w) (x : Int) : SbI N T en M { s with kind := x } l (w.setCell ⟨M, 1, none⟩ (.int .i64 x)) := by
  obtain ⟨h1, ⟨a, S, h2, h3, h4⟩, h5, h6, h7⟩ := h
  have hB : StB M a { s with kind := x } (w.setCell ⟨M, 1, none⟩ (.int .i64 x)) := by unfold StB at h2 ⊢; rw [row_setCell h2 _]; rfl
  have h3' := h3.to (S' := S) (setM (w := w) (M := M) (i := 1) (v := .int .i64 x)) (fun b hb => ⟨(h4 b hb).2, by have := h4 b hb; omega⟩) (fun _ h => h)
  exact ⟨SbI.keptM h1 h6 setM, ⟨a, S, hB, ⟨h3'.target, h3'.value, h3'.pat, h3'.params, h3'.locals⟩, fun b hb => ⟨(h4 b hb).1, Nat.lt_of_lt_of_le (h4 b hb).2 (setM (w := w) (M := M) (i := 1) (v := .int .i64 x)).size⟩⟩, ⟨h5.label, h5.target, h5.value, h5.pat, h5.name, h5.entry, h5.params, h5.locals, h5.always, h5.yes, h5.noes⟩, h6, h7⟩
theorem SbI.setName {N T en M : Nat} {s : StT} {l : List LTok} {w : World} (h : SbI N T en M s l w) (x : ByteArray) (hx : x.size < 1000000000) : SbI N T en M { s with name := x } l (w.setCell ⟨M, 17, none⟩ (.string x)) := by
  obtain ⟨h1, ⟨a, S, h2, h3, h4⟩, h5, h6, h7⟩ := h
  have hB : StB M a { s with name := x } (w.setCell ⟨M, 17, none⟩ (.string x)) := by unfold StB at h2 ⊢; rw [row_setCell h2 _]; rfl
  have h3' := h3.to (S' := S) (setM (w := w) (M := M) (i := 17) (v := .string x)) (fun b hb => ⟨(h4 b hb).2, by have := h4 b hb; omega⟩) (fun _ h => h)
  exact ⟨SbI.keptM h1 h6 setM, ⟨a, S, hB, ⟨h3'.target, h3'.value, h3'.pat, h3'.params, h3'.locals⟩, fun b hb => ⟨(h4 b hb).1, Nat.lt_of_lt_of_le (h4 b hb).2 (setM (w := w) (M := M) (i := 17) (v := .string x)).size⟩⟩, ⟨h5.label, h5.target, h5.value, h5.pat, hx, h5.entry, h5.params, h5.locals, h5.always, h5.yes, h5.noes⟩, h6, h7⟩
theorem SbI.setEntry {N T en M : Nat} {s : StT} {l : List LTok} {w : World} (h : SbI N T en M s l w) (x : ByteArray) (hx : x.size < 1000000000) : SbI N T en M { s with entry := x } l (w.setCell ⟨M, 18, none⟩ (.string x)) := by
  obtain ⟨h1, ⟨a, S, h2, h3, h4⟩, h5, h6, h7⟩ := h
  have hB : StB M a { s with entry := x } (w.setCell ⟨M, 18, none⟩ (.string x)) := by unfold StB at h2 ⊢; rw [row_setCell h2 _]; rfl
  have h3' := h3.to (S' := S) (setM (w := w) (M := M) (i := 18) (v := .string x)) (fun b hb => ⟨(h4 b hb).2, by have := h4 b hb; omega⟩) (fun _ h => h)
  exact ⟨SbI.keptM h1 h6 setM, ⟨a, S, hB, ⟨h3'.target, h3'.value, h3'.pat, h3'.params, h3'.locals⟩, fun b hb => ⟨(h4 b hb).1, Nat.lt_of_lt_of_le (h4 b hb).2 (setM (w := w) (M := M) (i := 18) (v := .string x)).size⟩⟩, ⟨h5.label, h5.target, h5.value, h5.pat, h5.name, hx, h5.params, h5.locals, h5.always, h5.yes, h5.noes⟩, h6, h7⟩
theorem SbI.setAlways {N T en M : Nat} {s : StT} {l : List LTok} {w : World} (h : SbI N T en M s l w) (x : ByteArray) (hx : x.size < 1000000000) : SbI N T en M { s with always := x } l (w.setCell ⟨M, 21, none⟩ (.string x)) := by
  obtain ⟨h1, ⟨a, S, h2, h3, h4⟩, h5, h6, h7⟩ := h
  have hB : StB M a { s with always := x } (w.setCell ⟨M, 21, none⟩ (.string x)) := by unfold StB at h2 ⊢; rw [row_setCell h2 _]; rfl
  have h3' := h3.to (S' := S) (setM (w := w) (M := M) (i := 21) (v := .string x)) (fun b hb => ⟨(h4 b hb).2, by have := h4 b hb; omega⟩) (fun _ h => h)
  exact ⟨SbI.keptM h1 h6 setM, ⟨a, S, hB, ⟨h3'.target, h3'.value, h3'.pat, h3'.params, h3'.locals⟩, fun b hb => ⟨(h4 b hb).1, Nat.lt_of_lt_of_le (h4 b hb).2 (setM (w := w) (M := M) (i := 21) (v := .string x)).size⟩⟩, ⟨h5.label, h5.target, h5.value, h5.pat, h5.name, h5.entry, h5.params, h5.locals, hx, h5.yes, h5.noes⟩, h6, h7⟩
theorem SbI.setYes {N T en M : Nat} {s : StT} {l : List LTok} {w : World} (h : SbI N T en M s l w) (x : ByteArray) (hx : x.size < 1000000000) : SbI N T en M { s with yes := x } l (w.setCell ⟨M, 22, none⟩ (.string x)) := by
  obtain ⟨h1, ⟨a, S, h2, h3, h4⟩, h5, h6, h7⟩ := h
  have hB : StB M a { s with yes := x } (w.setCell ⟨M, 22, none⟩ (.string x)) := by unfold StB at h2 ⊢; rw [row_setCell h2 _]; rfl
  have h3' := h3.to (S' := S) (setM (w := w) (M := M) (i := 22) (v := .string x)) (fun b hb => ⟨(h4 b hb).2, by have := h4 b hb; omega⟩) (fun _ h => h)
  exact ⟨SbI.keptM h1 h6 setM, ⟨a, S, hB, ⟨h3'.target, h3'.value, h3'.pat, h3'.params, h3'.locals⟩, fun b hb => ⟨(h4 b hb).1, Nat.lt_of_lt_of_le (h4 b hb).2 (setM (w := w) (M := M) (i := 22) (v := .string x)).size⟩⟩, ⟨h5.label, h5.target, h5.value, h5.pat, h5.name, h5.entry, h5.params, h5.locals, h5.always, hx, h5.noes⟩, h6, h7⟩
theorem SbI.setNoes {N T en M : Nat} {s : StT} {l : List LTok} {w : World} (h : SbI N T en M s l w) (x : ByteArray) (hx : x.size < 1000000000) : SbI N T en M { s with noes := x } l (w.setCell ⟨M, 23, none⟩ (.string x)) := by
  obtain ⟨h1, ⟨a, S, h2, h3, h4⟩, h5, h6, h7⟩ := h
  have hB : StB M a { s with noes := x } (w.setCell ⟨M, 23, none⟩ (.string x)) := by unfold StB at h2 ⊢; rw [row_setCell h2 _]; rfl
  have h3' := h3.to (S' := S) (setM (w := w) (M := M) (i := 23) (v := .string x)) (fun b hb => ⟨(h4 b hb).2, by have := h4 b hb; omega⟩) (fun _ h => h)
  exact ⟨SbI.keptM h1 h6 setM, ⟨a, S, hB, ⟨h3'.target, h3'.value, h3'.pat, h3'.params, h3'.locals⟩, fun b hb => ⟨(h4 b hb).1, Nat.lt_of_lt_of_le (h4 b hb).2 (setM (w := w) (M := M) (i := 23) (v := .string x)).size⟩⟩, ⟨h5.label, h5.target, h5.value, h5.pat, h5.name, h5.entry, h5.params, h5.locals, h5.always, h5.yes, hx⟩, h6, h7⟩
theorem SbI.setParams {N T en M : Nat} {s : StT} {l l2 : List LTok} {w w2 : World} (h : SbI N T en M s l w) (hk : Kept (· = N) w w2) (hr : PsR N T en l2 0 w2) (hl : l2.length ≤ l.length) {ns : List ByteArray} {na : Option Addr} {nc : Nat} (hw : Win w2 w.heap.size 9 1 (.slice na ns.length nc) ns.length (strR ns)) (hx : ns.length < 1000000000 ∧ ∀ x ∈ ns, x.size < 1000000000) :
    SbI N T en M { s with params := ns } l2 (w2.setCell ⟨M, 19, none⟩ (.slice na ns.length nc)) := by
  have hM : M < w.heap.size := by obtain ⟨a, S, h2, _⟩ := h.st; exact h2.lt
  obtain ⟨h1, ⟨a, S, h2, h3, h4⟩, h5, h6, h7⟩ := h.rdr_to hk hr hl
  have hB : StB M { a with ma := na, mc := nc } { s with params := ns } (w2.setCell ⟨M, 19, none⟩ (.slice na ns.length nc)) := by unfold StB at h2 ⊢; rw [row_setCell h2 _]; rfl
  have kM := setM (w := w2) (M := M) (i := 19) (v := .slice na ns.length nc)
  have h3' := h3.to (S' := fun b => S b ∨ (Value.slice na ns.length nc).ownBlock = some b) kM (fun b hb => ⟨(h4 b hb).2, by have := h4 b hb; omega⟩) (fun _ h => .inl h)
  have x3 : StrsAt (w2.setCell ⟨M, 19, none⟩ (.slice na ns.length nc)) (fun b => S b ∨ (Value.slice na ns.length nc).ownBlock = some b) na ns := by
    intro h0
    rcases hw.cells with ⟨_, hn⟩ | ⟨g, o, c', hv, hg1, hg2, _, _, hc⟩
    · omega
    · simp only [Value.slice.injEq, true_and] at hv
      obtain ⟨rfl, rfl⟩ := hv
      exact ⟨g, o, rfl, .inr rfl, fun j hj => (kM.cell hg2 (by omega)).trans (hc j _ (by simp [strR, hj])).1⟩
  refine ⟨SbI.keptM h1 h6 kM, ⟨_, _, hB, ⟨h3'.target, h3'.value, h3'.pat, x3, h3'.locals⟩, fun b hb => ?_⟩, ⟨h5.label, h5.target, h5.value, h5.pat, h5.name, h5.entry, hx, h5.locals, h5.always, h5.yes, h5.noes⟩, h6, h7⟩
  rcases hb with hb | hb
  · exact ⟨(h4 b hb).1, Nat.lt_of_lt_of_le (h4 b hb).2 kM.size⟩
  · have := hw.lt b hb; have := kM.size; omega
theorem SbI.setLocals {N T en M : Nat} {s : StT} {l l2 : List LTok} {w w2 : World} (h : SbI N T en M s l w) (hk : Kept (· = N) w w2) (hr : PsR N T en l2 0 w2) (hl : l2.length ≤ l.length) {ns : List ByteArray} {na : Option Addr} {nc : Nat} (hw : Win w2 w.heap.size 9 1 (.slice na ns.length nc) ns.length (strR ns)) (hx : ns.length < 1000000000 ∧ ∀ x ∈ ns, x.size < 1000000000) :
    SbI N T en M { s with locals := ns } l2 (w2.setCell ⟨M, 20, none⟩ (.slice na ns.length nc)) := by
  have hM : M < w.heap.size := by obtain ⟨a, S, h2, _⟩ := h.st; exact h2.lt
  obtain ⟨h1, ⟨a, S, h2, h3, h4⟩, h5, h6, h7⟩ := h.rdr_to hk hr hl
  have hB : StB M { a with la := na, lc := nc } { s with locals := ns } (w2.setCell ⟨M, 20, none⟩ (.slice na ns.length nc)) := by unfold StB at h2 ⊢; rw [row_setCell h2 _]; rfl
  have kM := setM (w := w2) (M := M) (i := 20) (v := .slice na ns.length nc)
  have h3' := h3.to (S' := fun b => S b ∨ (Value.slice na ns.length nc).ownBlock = some b) kM (fun b hb => ⟨(h4 b hb).2, by have := h4 b hb; omega⟩) (fun _ h => .inl h)
  have x3 : StrsAt (w2.setCell ⟨M, 20, none⟩ (.slice na ns.length nc)) (fun b => S b ∨ (Value.slice na ns.length nc).ownBlock = some b) na ns := by
    intro h0
    rcases hw.cells with ⟨_, hn⟩ | ⟨g, o, c', hv, hg1, hg2, _, _, hc⟩
    · omega
    · simp only [Value.slice.injEq, true_and] at hv
      obtain ⟨rfl, rfl⟩ := hv
      exact ⟨g, o, rfl, .inr rfl, fun j hj => (kM.cell hg2 (by omega)).trans (hc j _ (by simp [strR, hj])).1⟩
  refine ⟨SbI.keptM h1 h6 kM, ⟨_, _, hB, ⟨h3'.target, h3'.value, h3'.pat, h3'.params, x3⟩, fun b hb => ?_⟩, ⟨h5.label, h5.target, h5.value, h5.pat, h5.name, h5.entry, h5.params, hx, h5.always, h5.yes, h5.noes⟩, h6, h7⟩
  rcases hb with hb | hb
  · exact ⟨(h4 b hb).1, Nat.lt_of_lt_of_le (h4 b hb).2 kM.size⟩
  · have := hw.lt b hb; have := kM.size; omega
theorem SbI.setTarget {N T en M : Nat} {s : StT} {l : List LTok} {w2 : World} (h : SbI N T en M s l w2) {p : PatT} {ka : Option Addr} {kc : Nat} {S2 : Nat → Prop} (hk2 : PatsAt w2 S2 ka p.kids) (hS2 : ∀ b, S2 b → M < b ∧ b < w2.heap.size) (hz : p.text.size < 1000000000 ∧ p.name.size < 1000000000 ∧ p.kids.length < 1000000000) (hx : sizeT p ≤ 1048576) :
    SbI N T en M { s with target := p } l (((((w2.setCell ⟨M, 2, none⟩ (.int .i64 p.kind)).setCell ⟨M, 3, none⟩ (.string p.text)).setCell ⟨M, 4, none⟩ (.int .i64 p.n)).setCell ⟨M, 5, none⟩ (.string p.name)).setCell ⟨M, 6, none⟩ (.slice ka p.kids.length kc)) := by
  obtain ⟨h1, ⟨a, S, h2, h3, h4⟩, h5, h6, h7⟩ := h
  have hB : StB M { a with ta := ka, tc := kc } { s with target := p } (((((w2.setCell ⟨M, 2, none⟩ (.int .i64 p.kind)).setCell ⟨M, 3, none⟩ (.string p.text)).setCell ⟨M, 4, none⟩ (.int .i64 p.n)).setCell ⟨M, 5, none⟩ (.string p.name)).setCell ⟨M, 6, none⟩ (.slice ka p.kids.length kc)) := by unfold StB at h2 ⊢; rw [row_setCell (row_setCell (row_setCell (row_setCell (row_setCell h2 _) _) _) _) _]; rfl
  have kM : Kept (· = M) w2 (((((w2.setCell ⟨M, 2, none⟩ (.int .i64 p.kind)).setCell ⟨M, 3, none⟩ (.string p.text)).setCell ⟨M, 4, none⟩ (.int .i64 p.n)).setCell ⟨M, 5, none⟩ (.string p.name)).setCell ⟨M, 6, none⟩ (.slice ka p.kids.length kc)) := ((((setM).trans setM).trans setM).trans setM).trans setM
  have h3' := h3.to (S' := fun b => S b ∨ S2 b) kM (fun b hb => ⟨(h4 b hb).2, by have := h4 b hb; omega⟩) (fun _ h => .inl h)
  have x3 := hk2.to (S' := fun b => S b ∨ S2 b) kM (fun b hb => ⟨(hS2 b hb).2, by have := hS2 b hb; omega⟩) (fun _ h => .inr h)
  refine ⟨SbI.keptM h1 h6 kM, ⟨_, _, hB, ⟨x3, h3'.value, h3'.pat, h3'.params, h3'.locals⟩, fun b hb => ?_⟩, ⟨h5.label, ⟨hz, hx⟩, h5.value, h5.pat, h5.name, h5.entry, h5.params, h5.locals, h5.always, h5.yes, h5.noes⟩, h6, h7⟩
  have := kM.size
  rcases hb with hb | hb
  · have := h4 b hb; omega
  · have := hS2 b hb; omega
theorem SbI.setValue {N T en M : Nat} {s : StT} {l : List LTok} {w2 : World} (h : SbI N T en M s l w2) {p : PatT} {ka : Option Addr} {kc : Nat} {S2 : Nat → Prop} (hk2 : PatsAt w2 S2 ka p.kids) (hS2 : ∀ b, S2 b → M < b ∧ b < w2.heap.size) (hz : p.text.size < 1000000000 ∧ p.name.size < 1000000000 ∧ p.kids.length < 1000000000) (hx : sizeT p ≤ 1048576) :
    SbI N T en M { s with value := p } l (((((w2.setCell ⟨M, 7, none⟩ (.int .i64 p.kind)).setCell ⟨M, 8, none⟩ (.string p.text)).setCell ⟨M, 9, none⟩ (.int .i64 p.n)).setCell ⟨M, 10, none⟩ (.string p.name)).setCell ⟨M, 11, none⟩ (.slice ka p.kids.length kc)) := by
  obtain ⟨h1, ⟨a, S, h2, h3, h4⟩, h5, h6, h7⟩ := h
  have hB : StB M { a with va := ka, vc := kc } { s with value := p } (((((w2.setCell ⟨M, 7, none⟩ (.int .i64 p.kind)).setCell ⟨M, 8, none⟩ (.string p.text)).setCell ⟨M, 9, none⟩ (.int .i64 p.n)).setCell ⟨M, 10, none⟩ (.string p.name)).setCell ⟨M, 11, none⟩ (.slice ka p.kids.length kc)) := by unfold StB at h2 ⊢; rw [row_setCell (row_setCell (row_setCell (row_setCell (row_setCell h2 _) _) _) _) _]; rfl
  have kM : Kept (· = M) w2 (((((w2.setCell ⟨M, 7, none⟩ (.int .i64 p.kind)).setCell ⟨M, 8, none⟩ (.string p.text)).setCell ⟨M, 9, none⟩ (.int .i64 p.n)).setCell ⟨M, 10, none⟩ (.string p.name)).setCell ⟨M, 11, none⟩ (.slice ka p.kids.length kc)) := ((((setM).trans setM).trans setM).trans setM).trans setM
  have h3' := h3.to (S' := fun b => S b ∨ S2 b) kM (fun b hb => ⟨(h4 b hb).2, by have := h4 b hb; omega⟩) (fun _ h => .inl h)
  have x3 := hk2.to (S' := fun b => S b ∨ S2 b) kM (fun b hb => ⟨(hS2 b hb).2, by have := hS2 b hb; omega⟩) (fun _ h => .inr h)
  refine ⟨SbI.keptM h1 h6 kM, ⟨_, _, hB, ⟨h3'.target, x3, h3'.pat, h3'.params, h3'.locals⟩, fun b hb => ?_⟩, ⟨h5.label, h5.target, ⟨hz, hx⟩, h5.pat, h5.name, h5.entry, h5.params, h5.locals, h5.always, h5.yes, h5.noes⟩, h6, h7⟩
  have := kM.size
  rcases hb with hb | hb
  · have := h4 b hb; omega
  · have := hS2 b hb; omega
theorem SbI.setPat {N T en M : Nat} {s : StT} {l : List LTok} {w2 : World} (h : SbI N T en M s l w2) {p : PatT} {ka : Option Addr} {kc : Nat} {S2 : Nat → Prop} (hk2 : PatsAt w2 S2 ka p.kids) (hS2 : ∀ b, S2 b → M < b ∧ b < w2.heap.size) (hz : p.text.size < 1000000000 ∧ p.name.size < 1000000000 ∧ p.kids.length < 1000000000) (hx : sizeT p ≤ 1048576) :
    SbI N T en M { s with pat := p } l (((((w2.setCell ⟨M, 12, none⟩ (.int .i64 p.kind)).setCell ⟨M, 13, none⟩ (.string p.text)).setCell ⟨M, 14, none⟩ (.int .i64 p.n)).setCell ⟨M, 15, none⟩ (.string p.name)).setCell ⟨M, 16, none⟩ (.slice ka p.kids.length kc)) := by
  obtain ⟨h1, ⟨a, S, h2, h3, h4⟩, h5, h6, h7⟩ := h
  have hB : StB M { a with pa := ka, pc := kc } { s with pat := p } (((((w2.setCell ⟨M, 12, none⟩ (.int .i64 p.kind)).setCell ⟨M, 13, none⟩ (.string p.text)).setCell ⟨M, 14, none⟩ (.int .i64 p.n)).setCell ⟨M, 15, none⟩ (.string p.name)).setCell ⟨M, 16, none⟩ (.slice ka p.kids.length kc)) := by unfold StB at h2 ⊢; rw [row_setCell (row_setCell (row_setCell (row_setCell (row_setCell h2 _) _) _) _) _]; rfl
  have kM : Kept (· = M) w2 (((((w2.setCell ⟨M, 12, none⟩ (.int .i64 p.kind)).setCell ⟨M, 13, none⟩ (.string p.text)).setCell ⟨M, 14, none⟩ (.int .i64 p.n)).setCell ⟨M, 15, none⟩ (.string p.name)).setCell ⟨M, 16, none⟩ (.slice ka p.kids.length kc)) := ((((setM).trans setM).trans setM).trans setM).trans setM
  have h3' := h3.to (S' := fun b => S b ∨ S2 b) kM (fun b hb => ⟨(h4 b hb).2, by have := h4 b hb; omega⟩) (fun _ h => .inl h)
  have x3 := hk2.to (S' := fun b => S b ∨ S2 b) kM (fun b hb => ⟨(hS2 b hb).2, by have := hS2 b hb; omega⟩) (fun _ h => .inr h)
  refine ⟨SbI.keptM h1 h6 kM, ⟨_, _, hB, ⟨h3'.target, h3'.value, x3, h3'.params, h3'.locals⟩, fun b hb => ?_⟩, ⟨h5.label, h5.target, h5.value, ⟨hz, hx⟩, h5.name, h5.entry, h5.params, h5.locals, h5.always, h5.yes, h5.noes⟩, h6, h7⟩
  have := kM.size
  rcases hb with hb | hb
  · have := h4 b hb; omega
  · have := hS2 b hb; omega

theorem depL_take (l : List PatT) (j : Nat) (hj : j < l.length) : depL (l.take (j + 1)) = max (depL (l.take j)) (depT l[j]) := by
  induction l generalizing j with
  | nil => simp at hj
  | cons p ps ih =>
    cases j with
    | zero => simp [depL]
    | succ j => simp only [List.take_succ_cons, depL, List.getElem_cons_succ]; rw [ih j (by simpa using hj)]; omega
mutual
theorem dep_size : ∀ p : PatT, depT p ≤ sizeT p
  | .mk k t n nm kids => by rw [depT, sizeT]; have := depL_size kids; omega
theorem depL_size : ∀ l : List PatT, depL l ≤ sizeL l
  | [] => Nat.le_refl _
  | p :: ps => by rw [depL, sizeL]; have := dep_size p; have := depL_size ps; omega
end
theorem depL_le_take (l : List PatT) (j : Nat) : depL (l.take j) ≤ sizeL l := Nat.le_trans (depL_size _) (sizeL_take l j)
set_option maxRecDepth 100000 in
set_option maxHeartbeats 4000000 in
theorem depth_any : ∀ (n : Nat) (p : PatT) (b o : Nat) (S : Nat → Prop) (w : World), sizeT p ≤ n → n ≤ 100000000 → PatAt w S b o p → Calls Tryz.prog 50 #[.pointer (some ⟨b, o, none⟩)] w (IntW (depT p) w) := by
  intro n
  induction n with
  | zero => intro p b o S w hn _ _; obtain ⟨k, t, m, nm, kids⟩ := p; simp [sizeT] at hn
  | succ n ih =>
    intro p b o S w hn hmax hp
    obtain ⟨k, t, m, nm, kids⟩ := p
    obtain ⟨hSb, hz, c0, c1, c2, c3, ka, cap, c4, hk⟩ := hp.open
    have hks : sizeL kids ≤ n := by rw [sizeT] at hn; omega
    have hkl : kids.length < 1000000000 := hz.2.2
    dsimp only [PatT.kids] at c4 hk
    have HIH := Lib.hid ih; have HK := Lib.hid hk; have HKS := Lib.hid hks
    have HD : Hid (depT (.mk k t m nm kids) = depL kids + 1) := rfl
    clear hp hz hk hn ih
    go_enter Tryz.func50, Tryz.ntmps50
    go_wp2_with fail
    go_loopw [10, 3] (fun x y wr => ∃ j : Nat, j ≤ kids.length ∧ x = .int .i64 j ∧ y = .int .i64 ((depL (kids.take j) : Nat) : Int) ∧ wr = w) (fun x _ _ => kids.length - (intOf x).toNat)
    case atStart => exact ⟨0, Nat.zero_le _, rfl, rfl, rfl⟩
    case round =>
      obtain ⟨j, hj, rfl, rfl, rfl⟩ := hrel
      by_cases hlt : j < kids.length
      · have hb1 : decide ((j : Int) < (kids.length : Int)) = true := decide_eq_true (by omega)
        have hb2 : decide (j < kids.length) = true := decide_eq_true hlt
        obtain ⟨kb, ko, rfl⟩ := PatsAt_head HK.out (by omega)
        have hC := Lib.hid (HIH.out kids[j] kb (ko + j * 5) S _ (by have := sizeT_get kids j hlt; have := HKS.out; omega) (by omega) (PatsAt_get kids kb ko j hlt HK.out))
        have hmx : ((max (depL (kids.take j)) (depT kids[j]) : Nat) : Int) = ((depL (kids.take (j + 1)) : Nat) : Int) := by rw [depL_take kids j hlt]
        have hmx2 : max ((depL (kids.take j) : Nat) : Int) ((depT kids[j] : Nat) : Int) = ((depL (kids.take (j + 1)) : Nat) : Int) := by rw [depL_take kids j hlt]; omega
        have hd1 : depL (kids.take j) ≤ 100000000 := Nat.le_trans (depL_le_take kids j) (by have := HKS.out; omega)
        obtain ⟨x, hx⟩ : ∃ x, x = depL (kids.take j) := ⟨_, rfl⟩
        obtain ⟨y, hy⟩ : ∃ y, y = depT kids[j] := ⟨_, rfl⟩
        obtain ⟨z, hzz⟩ : ∃ z, z = depL (kids.take (j + 1)) := ⟨_, rfl⟩
        rw [← hy] at hC
        rw [← hx, ← hy, ← hzz] at hmx2
        rw [← hx] at hd1 ⊢
        have HZZ := Lib.hid hzz
        clear hmx hx hy hzz
        go_wp2_with (go_at_call 50; (refine hC.out.mono ?_); rintro e w' ⟨rfl, hw_⟩; obtain rfl := hw_)
        go_roundw
        case measure => simp [intOf]; omega
        case rel => exact ⟨j + 1, by omega, by go_num, by rw [HZZ.out], trivial⟩
      · obtain rfl : j = kids.length := by omega
        have hb1 : decide ((kids.length : Int) < (kids.length : Int)) = false := decide_eq_false (by omega)
        have hb2 : decide (kids.length < kids.length) = false := decide_eq_false (by omega)
        have hd1 : depL kids ≤ 100000000 := Nat.le_trans (depL_size kids) (by have := HKS.out; omega)
        rw [List.take_length]
        go_wp2_with fail
        go_ret
        exact ⟨by rw [HD.out]; rfl, rfl⟩
end Go.Proofs.YtlnhcgihpclpaaaGreatDoor
