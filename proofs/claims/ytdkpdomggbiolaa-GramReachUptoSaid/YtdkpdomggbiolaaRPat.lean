/- A pattern that comes in, as a tree. -/
import Derived.Test.YtdkpdomggbiolaaRows
import Derived.Test.YtdkpdomggbiolaaSize
import Derived.Deep.Slices
import Derived.ProofKit
import Derived.OpenShut
namespace Go.Proofs.Ytdkpdomggbiolaa
set_option linter.all false
open Go.RowKit Go.Deep

theorem one_le_bulk {H : Type} (d : DataW H) : 1 ≤ Rows.uptoBulk d := by
  cases d with
  | lit l => cases l <;> simp [Rows.uptoBulk]
  | nil => simp [Rows.uptoBulk]
  | ptr d => simp [Rows.uptoBulk]
  | slice elems spare => simp [Rows.uptoBulk]
  | agg parts => simp [Rows.uptoBulk]
  | iface t d => simp [Rows.uptoBulk]
  | map entries => simp [Rows.uptoBulk]
  | held h => simp [Rows.uptoBulk]
theorem bulk_string {H : Type} (s : ByteArray) : Rows.uptoBulk (DataW.lit (H := H) (.string s.data.toList)) = s.size + 1 := by
  simp only [Rows.uptoBulk]; rfl
theorem bulkAll_length {H : Type} : ∀ (l : List (DataW H)), l.length ≤ Rows.uptoBulkAll l
  | [] => by simp [Rows.uptoBulkAll]
  | x :: r => by have := one_le_bulk x; have := bulkAll_length r; simp only [Rows.uptoBulkAll, List.length_cons]; omega

section
variable {H : Type} {enc : TypeId × Value → H} {w : World} {spare : Nat → Bool} {held : Bool}

theorem cells_lt {a : Addr} {v : Value} (h : w.cell? a = some v) : a.block < w.heap.size := by
  unfold World.cell? at h
  cases hb : w.heap[a.block]? with
  | none => rw [hb] at h; simp at h
  | some o => exact (Array.getElem?_eq_some_iff.1 hb).1
theorem mk_pats (S : Nat → Prop) (b : Nat) : ∀ (len o : Nat) (B : Nat → Nat), (∀ i, i < len → ∃ p, PatAt w S b (o + i * 5) p ∧ sizeT p ≤ B i) →
    ∃ l : List PatT, l.length = len ∧ PatsAt w S (some ⟨b, o, none⟩) l ∧ sizeL l ≤ ((List.range len).map B).sum
  | 0, o, B, _ => ⟨[], rfl, by unfold PatsAt; trivial, by simp [sizeL]⟩
  | len + 1, o, B, h => by
    obtain ⟨p, hp, hs⟩ := h 0 (by omega)
    obtain ⟨l, hl, hk, hsl⟩ := mk_pats S b len (o + 5) (fun i => B (i + 1)) (fun i hi => by
      obtain ⟨q, hq, hqs⟩ := h (i + 1) (by omega)
      exact ⟨q, by rw [show o + 5 + i * 5 = o + (i + 1) * 5 by omega]; exact hq, hqs⟩)
    refine ⟨p :: l, by simp [hl], ?_, ?_⟩
    · unfold PatsAt; exact ⟨b, o, rfl, by simpa using hp, hk⟩
    · rw [sizeL, List.range_succ_eq_map, List.map_cons, List.sum_cons, List.map_map]
      exact Nat.add_le_add hs hsl
theorem le_sum_map (f : Nat → Nat) : ∀ (l : List Nat) (i : Nat), i ∈ l → f i ≤ (l.map f).sum
  | [], i, h => by simp at h
  | j :: r, i, h => by
    rw [List.map_cons, List.sum_cons]
    rcases List.mem_cons.1 h with rfl | h
    · omega
    · have := le_sum_map f r i h; omega
theorem sum_bulk (D : Nat → DataW H) : ∀ (l : List Nat), (l.map fun i => Rows.uptoBulk (D i)).sum = Rows.uptoBulkAll (l.map D)
  | [] => by simp [Rows.uptoBulkAll]
  | i :: r => by simp only [List.map_cons, List.sum_cons, Rows.uptoBulkAll, sum_bulk D r]

set_option maxRecDepth 100000 in
/-- Cells that read as a pattern are one. -/
theorem read_pat : ∀ (N : Nat), N ≤ 1048576 → ∀ (fuel : Nat) (cs : List Value) (x : DataW H × List MemPlace), DataW.trod enc Try.prog w 0 spare held fuel 25 cs = some x → Rows.uptoBulk x.1 ≤ N →
    ∃ p ka cap, cs = [.int .i64 (PatT.kind p), .string p.text, .int .i64 p.n, .string p.name, .slice ka p.kids.length cap] ∧ (p.text.size < 1000000000 ∧ p.name.size < 1000000000 ∧ p.kids.length < 1000000000) ∧ PatsAt w (· < w.heap.size) ka p.kids ∧ sizeT p ≤ Rows.uptoBulk x.1 := by
  intro N
  induction N with
  | zero => intro _ fuel cs x h hb; have := one_le_bulk x.1; omega
  | succ N ih =>
  intro hN fuel cs x h hb
  obtain ⟨xs, n, rfl, rfl, hlen, hxs, hf⟩ := DataW.trod_struct Try.underlying25 h
  have hcs : cs.length = 5 := hlen
  match cs, hcs with
  | [v0, v1, v2, v3, v4], _ =>
  match xs, hxs with
  | [x0, x1, x2, x3, x4], _ =>
  have h0 := hf 0 _ rfl; have h1 := hf 1 _ rfl; have h2 := hf 2 _ rfl; have h3 := hf 3 _ rfl; have h4 := hf 4 _ rfl
  obtain ⟨k, e0, r0, _⟩ := DataW.trod_int (cs := [v0]) (x := x0) Try.underlying3 h0
  obtain ⟨t, e1, r1, _⟩ := DataW.trod_string (cs := [v1]) (x := x1) Try.underlying9 h1
  obtain ⟨nn, e2, r2, _⟩ := DataW.trod_int (cs := [v2]) (x := x2) Try.underlying3 h2
  obtain ⟨nm, e3, r3, _⟩ := DataW.trod_string (cs := [v3]) (x := x3) Try.underlying9 h3
  simp only [List.cons.injEq, and_true] at e0 e1 e2 e3
  subst e0 e1 e2 e3 r0 r1 r2 r3
  simp only [List.map_cons, List.map_nil, Rows.uptoBulk, Rows.uptoBulkAll] at hb ⊢
  have zt : t.data.toList.length = t.size := rfl
  have zn : nm.data.toList.length = nm.size := rfl
  rw [zt, zn] at hb ⊢
  rcases open_slice (cs := [v4]) (x := x4) Try.underlying23 h4 with ⟨e4, r4⟩ | ⟨a, len, cap, m, n', D, Pl, e4, _, hlc, hcm, hm, r4, hel⟩
  · simp only [List.cons.injEq, and_true] at e4; subst e4 r4
    refine ⟨.mk k t nn nm [], none, 0, rfl, ⟨?_, ?_, by simp⟩, by unfold PatsAt; trivial, by simp only [sizeT, sizeL]; omega⟩
    · rw [PatT.text_mk]; omega
    · rw [PatT.name_mk]; omega
  · simp only [List.cons.injEq, and_true] at e4; subst e4
    rw [r4] at hb ⊢
    simp only [Rows.uptoBulk] at hb ⊢
    have hlm : len ≤ m := by rw [hm]; split <;> omega
    have hbl := bulkAll_length ((List.range len).map D)
    rw [List.length_map, List.length_range] at hbl
    have hsum := sum_bulk D (List.range len)
    have hfin : ∃ l : List PatT, l.length = len ∧ PatsAt w (· < w.heap.size) (some a) l ∧ sizeL l ≤ Rows.uptoBulkAll ((List.range len).map D) := by
      cases len with
      | zero => exact ⟨[], rfl, by unfold PatsAt; trivial, by simp [sizeL]⟩
      | succ len =>
        obtain ⟨cs0, hc0, _⟩ := hel 0 (by omega)
        have hc0' := (World.cells?_some hc0).2.2 0 (by decide)
        have hl0 := (World.cells?_some hc0).2.1
        obtain ⟨b, o, spot⟩ := a
        have hspot : spot = none := by
          have hx : ∃ u, w.cell? ((⟨b, o, spot⟩ : Addr).add (0 * Try.prog.cellsOf 25)) = some u := by
            have : 0 < cs0.length := by rw [hl0]; decide
            exact ⟨cs0[0], by simpa [Addr.add, List.getElem?_eq_getElem this] using hc0'⟩
          obtain ⟨u, hu⟩ := hx
          simpa [Addr.add] using World.cell?_spot hu
        subst hspot
        obtain ⟨l, hl, hk, hs⟩ := mk_pats (w := w) (· < w.heap.size) b (len + 1) o (fun i => Rows.uptoBulk (D i)) (fun i hi => by
          obtain ⟨cs', hc, ht⟩ := hel i (by omega)
          have hbi : Rows.uptoBulk (D i) ≤ Rows.uptoBulkAll ((List.range (len + 1)).map D) := by
            rw [← hsum]; exact le_sum_map (fun i => Rows.uptoBulk (D i)) _ i (List.mem_range.2 hi)
          obtain ⟨p, ka, cp, rfl, hz, hkk, hsz⟩ := ih (by omega) n' cs' _ ht (by simp only; omega)
          obtain ⟨_, _, hcell⟩ := World.cells?_some hc
          have ea : ∀ j, ((⟨b, o, none⟩ : Addr).add (i * Try.prog.cellsOf 25)).add j = ⟨b, o + i * 5 + j, none⟩ := by
            intro j
            have e5 : Try.prog.cellsOf 25 = 5 := by kernel_rfl
            rw [e5]; unfold Addr.add; split <;> split <;> simp_all <;> omega
          have c0 := hcell 0 (by decide); have c1 := hcell 1 (by decide); have c2 := hcell 2 (by decide); have c3 := hcell 3 (by decide); have c4 := hcell 4 (by decide)
          rw [ea] at c0 c1 c2 c3 c4
          refine ⟨p, ?_, hsz⟩
          obtain ⟨k, t, nn, nm, kids⟩ := p
          unfold PatAt
          exact ⟨cells_lt c0, hz, c0, c1, c2, c3, ka, cp, c4, hkk⟩)
        exact ⟨l, hl, hk, by rw [← hsum]; exact hs⟩
    obtain ⟨l, rfl, hk, hs⟩ := hfin
    refine ⟨.mk k t nn nm l, some a, cap, rfl, ⟨?_, ?_, ?_⟩, hk, ?_⟩
    · rw [PatT.text_mk]; omega
    · rw [PatT.name_mk]; omega
    · rw [PatT.kids_mk]; omega
    · simp only [sizeT]; omega
end
end Go.Proofs.Ytdkpdomggbiolaa
