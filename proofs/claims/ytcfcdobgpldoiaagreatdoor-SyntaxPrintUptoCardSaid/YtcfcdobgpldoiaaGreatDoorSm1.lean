/- A pattern that comes in, as a tree. An expression that comes in, as a tree. Statements that come in, as trees. -/
import Derived.Test.YtcfcdobgpldoiaaGreatDoorRows
import Derived.Test.YtcfcdobgpldoiaaGreatDoorSm14
import Derived.Deep.Slices
import Derived.ProofKit
import Derived.OpenShut
import Derived.Test.YtcfcdobgpldoiaaGreatDoorSm13
namespace Go.Proofs.YtcfcdobgpldoiaaGreatDoor
set_option linter.all false
open Go.RowKit Go.Deep

theorem one_le_bulk {H : Type} (d : DataW H) : 1 ≤ Rows.uptoBulk d := by
  cases d with
  | lit l => cases l <;> simp [Rows.uptoBulk]
  | nil => simp [Rows.uptoBulk]
  | ptr d => simp [Rows.uptoBulk]
  | slice elems spare => simp [Rows.uptoBulk]
  | agg parts => simp [Rows.uptoBulk]
  | iface t d => simp [Rows.uptoBulk]
  | map entries => simp [Rows.uptoBulk]
  | held h => simp [Rows.uptoBulk]
theorem bulk_string {H : Type} (s : ByteArray) : Rows.uptoBulk (DataW.lit (H := H) (.string s.data.toList)) = s.size + 1 := by
  simp only [Rows.uptoBulk]; rfl
theorem bulkAll_length {H : Type} : ∀ (l : List (DataW H)), l.length ≤ Rows.uptoBulkAll l
  | [] => by simp [Rows.uptoBulkAll]
  | x :: r => by have := one_le_bulk x; have := bulkAll_length r; simp only [Rows.uptoBulkAll, List.length_cons]; omega

section
variable {H : Type} {enc : TypeId × Value → H} {w : World} {spare : Nat → Bool} {held : Bool}

theorem cells_lt {a : Addr} {v : Value} (h : w.cell? a = some v) : a.block < w.heap.size := by
  unfold World.cell? at h
  cases hb : w.heap[a.block]? with
  | none => rw [hb] at h; simp at h
  | some o => exact (Array.getElem?_eq_some_iff.1 hb).1
theorem mk_pats (S : Nat → Prop) (b : Nat) : ∀ (len o : Nat) (B : Nat → Nat), (∀ i, i < len → ∃ p, PatAt w S b (o + i * 5) p ∧ sizeT p ≤ B i) →
    ∃ l : List PatT, l.length = len ∧ PatsAt w S (some ⟨b, o, none⟩) l ∧ sizeL l ≤ ((List.range len).map B).sum
  | 0, o, B, _ => ⟨[], rfl, by unfold PatsAt; trivial, by simp [sizeL]⟩
  | len + 1, o, B, h => by
    obtain ⟨p, hp, hs⟩ := h 0 (by omega)
    obtain ⟨l, hl, hk, hsl⟩ := mk_pats S b len (o + 5) (fun i => B (i + 1)) (fun i hi => by
      obtain ⟨q, hq, hqs⟩ := h (i + 1) (by omega)
      exact ⟨q, by rw [show o + 5 + i * 5 = o + (i + 1) * 5 by omega]; exact hq, hqs⟩)
    refine ⟨p :: l, by simp [hl], ?_, ?_⟩
    · unfold PatsAt; exact ⟨b, o, rfl, by simpa using hp, hk⟩
    · rw [sizeL, List.range_succ_eq_map, List.map_cons, List.sum_cons, List.map_map]
      exact Nat.add_le_add hs hsl
theorem le_sum_map (f : Nat → Nat) : ∀ (l : List Nat) (i : Nat), i ∈ l → f i ≤ (l.map f).sum
  | [], i, h => by simp at h
  | j :: r, i, h => by
    rw [List.map_cons, List.sum_cons]
    rcases List.mem_cons.1 h with rfl | h
    · omega
    · have := le_sum_map f r i h; omega
theorem sum_bulk (D : Nat → DataW H) : ∀ (l : List Nat), (l.map fun i => Rows.uptoBulk (D i)).sum = Rows.uptoBulkAll (l.map D)
  | [] => by simp [Rows.uptoBulkAll]
  | i :: r => by simp only [List.map_cons, List.sum_cons, Rows.uptoBulkAll, sum_bulk D r]

set_option maxRecDepth 100000 in
/-- Cells that read as a pattern are one. -/
theorem read_pat : ∀ (N : Nat), N ≤ 1048576 → ∀ (fuel : Nat) (cs : List Value) (x : DataW H × List MemPlace), DataW.trod enc Tryz.prog w 0 spare held fuel 30 cs = some x → Rows.uptoBulk x.1 ≤ N →
    ∃ p ka cap, cs = [.int .i64 (PatT.kind p), .string p.text, .int .i64 p.n, .string p.name, .slice ka p.kids.length cap] ∧ (p.text.size < 1000000000 ∧ p.name.size < 1000000000 ∧ p.kids.length < 1000000000) ∧ PatsAt w (· < w.heap.size) ka p.kids ∧ sizeT p ≤ Rows.uptoBulk x.1 := by
  intro N
  induction N with
  | zero => intro _ fuel cs x h hb; have := one_le_bulk x.1; omega
  | succ N ih =>
  intro hN fuel cs x h hb
  obtain ⟨xs, n, rfl, rfl, hlen, hxs, hf⟩ := DataW.trod_struct Tryz.underlying30 h
  have hcs : cs.length = 5 := hlen
  match cs, hcs with
  | [v0, v1, v2, v3, v4], _ =>
  match xs, hxs with
  | [x0, x1, x2, x3, x4], _ =>
  have h0 := hf 0 _ rfl; have h1 := hf 1 _ rfl; have h2 := hf 2 _ rfl; have h3 := hf 3 _ rfl; have h4 := hf 4 _ rfl
  obtain ⟨k, e0, r0, _⟩ := DataW.trod_int (cs := [v0]) (x := x0) Tryz.underlying3 h0
  obtain ⟨t, e1, r1, _⟩ := DataW.trod_string (cs := [v1]) (x := x1) Tryz.underlying9 h1
  obtain ⟨nn, e2, r2, _⟩ := DataW.trod_int (cs := [v2]) (x := x2) Tryz.underlying3 h2
  obtain ⟨nm, e3, r3, _⟩ := DataW.trod_string (cs := [v3]) (x := x3) Tryz.underlying9 h3
  simp only [List.cons.injEq, and_true] at e0 e1 e2 e3
  subst e0 e1 e2 e3 r0 r1 r2 r3
  simp only [List.map_cons, List.map_nil, Rows.uptoBulk, Rows.uptoBulkAll] at hb ⊢
  have zt : t.data.toList.length = t.size := rfl
  have zn : nm.data.toList.length = nm.size := rfl
  rw [zt, zn] at hb ⊢
  rcases open_slice (cs := [v4]) (x := x4) Tryz.underlying28 h4 with ⟨e4, r4⟩ | ⟨a, len, cap, m, n', D, Pl, e4, _, hlc, hcm, hm, r4, hel⟩
  · simp only [List.cons.injEq, and_true] at e4; subst e4 r4
    refine ⟨.mk k t nn nm [], none, 0, rfl, ⟨?_, ?_, by simp⟩, by unfold PatsAt; trivial, by simp only [sizeT, sizeL]; omega⟩
    · rw [PatT.text_mk]; omega
    · rw [PatT.name_mk]; omega
  · simp only [List.cons.injEq, and_true] at e4; subst e4
    rw [r4] at hb ⊢
    simp only [Rows.uptoBulk] at hb ⊢
    have hlm : len ≤ m := by rw [hm]; split <;> omega
    have hbl := bulkAll_length ((List.range len).map D)
    rw [List.length_map, List.length_range] at hbl
    have hsum := sum_bulk D (List.range len)
    have hfin : ∃ l : List PatT, l.length = len ∧ PatsAt w (· < w.heap.size) (some a) l ∧ sizeL l ≤ Rows.uptoBulkAll ((List.range len).map D) := by
      cases len with
      | zero => exact ⟨[], rfl, by unfold PatsAt; trivial, by simp [sizeL]⟩
      | succ len =>
        obtain ⟨cs0, hc0, _⟩ := hel 0 (by omega)
        have hc0' := (World.cells?_some hc0).2.2 0 (by decide)
        have hl0 := (World.cells?_some hc0).2.1
        obtain ⟨b, o, spot⟩ := a
        have hspot : spot = none := by
          have hx : ∃ u, w.cell? ((⟨b, o, spot⟩ : Addr).add (0 * Tryz.prog.cellsOf 30)) = some u := by
            have : 0 < cs0.length := by rw [hl0]; decide
            exact ⟨cs0[0], by simpa [Addr.add, List.getElem?_eq_getElem this] using hc0'⟩
          obtain ⟨u, hu⟩ := hx
          simpa [Addr.add] using World.cell?_spot hu
        subst hspot
        obtain ⟨l, hl, hk, hs⟩ := mk_pats (w := w) (· < w.heap.size) b (len + 1) o (fun i => Rows.uptoBulk (D i)) (fun i hi => by
          obtain ⟨cs', hc, ht⟩ := hel i (by omega)
          have hbi : Rows.uptoBulk (D i) ≤ Rows.uptoBulkAll ((List.range (len + 1)).map D) := by
            rw [← hsum]; exact le_sum_map (fun i => Rows.uptoBulk (D i)) _ i (List.mem_range.2 hi)
          obtain ⟨p, ka, cp, rfl, hz, hkk, hsz⟩ := ih (by omega) n' cs' _ ht (by simp only; omega)
          obtain ⟨_, _, hcell⟩ := World.cells?_some hc
          have ea : ∀ j, ((⟨b, o, none⟩ : Addr).add (i * Tryz.prog.cellsOf 30)).add j = ⟨b, o + i * 5 + j, none⟩ := by
            intro j
            have e5 : Tryz.prog.cellsOf 30 = 5 := by kernel_rfl
            rw [e5]; unfold Addr.add; split <;> split <;> simp_all <;> omega
          have c0 := hcell 0 (by decide); have c1 := hcell 1 (by decide); have c2 := hcell 2 (by decide); have c3 := hcell 3 (by decide); have c4 := hcell 4 (by decide)
          rw [ea] at c0 c1 c2 c3 c4
          refine ⟨p, ?_, hsz⟩
          obtain ⟨k, t, nn, nm, kids⟩ := p
          unfold PatAt
          exact ⟨cells_lt c0, hz, c0, c1, c2, c3, ka, cp, c4, hkk⟩)
        exact ⟨l, hl, hk, by rw [← hsum]; exact hs⟩
    obtain ⟨l, rfl, hk, hs⟩ := hfin
    refine ⟨.mk k t nn nm l, some a, cap, rfl, ⟨?_, ?_, ?_⟩, hk, ?_⟩
    · rw [PatT.text_mk]; omega
    · rw [PatT.name_mk]; omega
    · rw [PatT.kids_mk]; omega
    · simp only [sizeT]; omega
end
end Go.Proofs.YtcfcdobgpldoiaaGreatDoor

namespace Go.Proofs.YtcfcdobgpldoiaaGreatDoor
set_option linter.all false
open Go.RowKit Go.Deep

section
variable {H : Type} {enc : TypeId × Value → H} {w : World} {spare : Nat → Bool} {held : Bool}
set_option maxRecDepth 100000 in
/-- Cells that read as an expression are one. -/
theorem read_expr : ∀ (N : Nat), N ≤ 1048576 → ∀ (fuel : Nat) (cs : List Value) (x : DataW H × List MemPlace), DataW.trod enc Tryz.prog w 0 spare held fuel 25 cs = some x → Rows.uptoBulk x.1 ≤ N →
    ∃ p ka cap, cs = [.int .i64 (PatT.kind p), .string p.text, .int .i64 p.n, .string p.name, .slice ka p.kids.length cap] ∧ (p.text.size < 1000000000 ∧ p.name.size < 1000000000 ∧ p.kids.length < 1000000000) ∧ PatsAt w (· < w.heap.size) ka p.kids ∧ sizeT p ≤ Rows.uptoBulk x.1 := by
  intro N
  induction N with
  | zero => intro _ fuel cs x h hb; have := one_le_bulk x.1; omega
  | succ N ih =>
  intro hN fuel cs x h hb
  obtain ⟨xs, n, rfl, rfl, hlen, hxs, hf⟩ := DataW.trod_struct Tryz.underlying25 h
  have hcs : cs.length = 5 := hlen
  match cs, hcs with
  | [v0, v1, v2, v3, v4], _ =>
  match xs, hxs with
  | [x0, x1, x2, x3, x4], _ =>
  have h0 := hf 0 _ rfl; have h1 := hf 1 _ rfl; have h2 := hf 2 _ rfl; have h3 := hf 3 _ rfl; have h4 := hf 4 _ rfl
  obtain ⟨k, e0, r0, _⟩ := DataW.trod_int (cs := [v0]) (x := x0) Tryz.underlying3 h0
  obtain ⟨t, e1, r1, _⟩ := DataW.trod_string (cs := [v1]) (x := x1) Tryz.underlying9 h1
  obtain ⟨nn, e2, r2, _⟩ := DataW.trod_int (cs := [v2]) (x := x2) Tryz.underlying2 h2
  obtain ⟨nm, e3, r3, _⟩ := DataW.trod_string (cs := [v3]) (x := x3) Tryz.underlying9 h3
  simp only [List.cons.injEq, and_true] at e0 e1 e2 e3
  subst e0 e1 e2 e3 r0 r1 r2 r3
  simp only [List.map_cons, List.map_nil, Rows.uptoBulk, Rows.uptoBulkAll] at hb ⊢
  have zt : t.data.toList.length = t.size := rfl
  have zn : nm.data.toList.length = nm.size := rfl
  rw [zt, zn] at hb ⊢
  rcases open_slice (cs := [v4]) (x := x4) Tryz.underlying23 h4 with ⟨e4, r4⟩ | ⟨a, len, cap, m, n', D, Pl, e4, _, hlc, hcm, hm, r4, hel⟩
  · simp only [List.cons.injEq, and_true] at e4; subst e4 r4
    refine ⟨.mk k t nn nm [], none, 0, rfl, ⟨?_, ?_, by simp⟩, by unfold PatsAt; trivial, by simp only [sizeT, sizeL]; omega⟩
    · rw [PatT.text_mk]; omega
    · rw [PatT.name_mk]; omega
  · simp only [List.cons.injEq, and_true] at e4; subst e4
    rw [r4] at hb ⊢
    simp only [Rows.uptoBulk] at hb ⊢
    have hlm : len ≤ m := by rw [hm]; split <;> omega
    have hbl := bulkAll_length ((List.range len).map D)
    rw [List.length_map, List.length_range] at hbl
    have hsum := sum_bulk D (List.range len)
    have hfin : ∃ l : List PatT, l.length = len ∧ PatsAt w (· < w.heap.size) (some a) l ∧ sizeL l ≤ Rows.uptoBulkAll ((List.range len).map D) := by
      cases len with
      | zero => exact ⟨[], rfl, by unfold PatsAt; trivial, by simp [sizeL]⟩
      | succ len =>
        obtain ⟨cs0, hc0, _⟩ := hel 0 (by omega)
        have hc0' := (World.cells?_some hc0).2.2 0 (by decide)
        have hl0 := (World.cells?_some hc0).2.1
        obtain ⟨b, o, spot⟩ := a
        have hspot : spot = none := by
          have hx : ∃ u, w.cell? ((⟨b, o, spot⟩ : Addr).add (0 * Tryz.prog.cellsOf 25)) = some u := by
            have : 0 < cs0.length := by rw [hl0]; decide
            exact ⟨cs0[0], by simpa [Addr.add, List.getElem?_eq_getElem this] using hc0'⟩
          obtain ⟨u, hu⟩ := hx
          simpa [Addr.add] using World.cell?_spot hu
        subst hspot
        obtain ⟨l, hl, hk, hs⟩ := mk_pats (w := w) (· < w.heap.size) b (len + 1) o (fun i => Rows.uptoBulk (D i)) (fun i hi => by
          obtain ⟨cs', hc, ht⟩ := hel i (by omega)
          have hbi : Rows.uptoBulk (D i) ≤ Rows.uptoBulkAll ((List.range (len + 1)).map D) := by
            rw [← hsum]; exact le_sum_map (fun i => Rows.uptoBulk (D i)) _ i (List.mem_range.2 hi)
          obtain ⟨p, ka, cp, rfl, hz, hkk, hsz⟩ := ih (by omega) n' cs' _ ht (by simp only; omega)
          obtain ⟨_, _, hcell⟩ := World.cells?_some hc
          have ea : ∀ j, ((⟨b, o, none⟩ : Addr).add (i * Tryz.prog.cellsOf 25)).add j = ⟨b, o + i * 5 + j, none⟩ := by
            intro j
            have e5 : Tryz.prog.cellsOf 25 = 5 := by kernel_rfl
            rw [e5]; unfold Addr.add; split <;> split <;> simp_all <;> omega
          have c0 := hcell 0 (by decide); have c1 := hcell 1 (by decide); have c2 := hcell 2 (by decide); have c3 := hcell 3 (by decide); have c4 := hcell 4 (by decide)
          rw [ea] at c0 c1 c2 c3 c4
          refine ⟨p, ?_, hsz⟩
          obtain ⟨k, t, nn, nm, kids⟩ := p
          unfold PatAt
          exact ⟨cells_lt c0, hz, c0, c1, c2, c3, ka, cp, c4, hkk⟩)
        exact ⟨l, hl, hk, by rw [← hsum]; exact hs⟩
    obtain ⟨l, rfl, hk, hs⟩ := hfin
    refine ⟨.mk k t nn nm l, some a, cap, rfl, ⟨?_, ?_, ?_⟩, hk, ?_⟩
    · rw [PatT.text_mk]; omega
    · rw [PatT.name_mk]; omega
    · rw [PatT.kids_mk]; omega
    · simp only [sizeT]; omega
end
end Go.Proofs.YtcfcdobgpldoiaaGreatDoor

namespace Go.Proofs.YtcfcdobgpldoiaaGreatDoor
set_option linter.all false
open Go.RowKit Go.Deep

section
variable {H : Type} {enc : TypeId × Value → H} {w : World} {spare : Nat → Bool} {held : Bool}

theorem mem_bulk {H : Type} (D : Nat → DataW H) (len i : Nat) (hi : i < len) : Rows.uptoBulk (D i) ≤ Rows.uptoBulkAll ((List.range len).map D) := by
  rw [← sum_bulk D]; exact le_sum_map (fun i => Rows.uptoBulk (D i)) _ i (List.mem_range.2 hi)
set_option maxRecDepth 100000 in
/-- Cells that read as a list of texts are one. -/
theorem read_strs {fuel : Nat} {v : Value} {x : DataW H × List MemPlace} (h : DataW.trod enc Tryz.prog w 0 spare held fuel 31 [v] = some x) (hb : Rows.uptoBulk x.1 ≤ 1048576) :
    ∃ (l : List ByteArray) (a : Option Addr) (cap : Nat), v = .slice a l.length cap ∧ StrsAt w (· < w.heap.size) a l ∧ l.length < 1000000000 ∧ ∀ y ∈ l, y.size < 1000000000 := by
  rcases open_slice (cs := [v]) (x := x) Tryz.underlying31 h with ⟨e4, r4⟩ | ⟨a, len, cap, m, n', D, Pl, e4, _, hlc, hcm, hm, r4, hel⟩
  · simp only [List.cons.injEq, and_true] at e4; subst e4
    exact ⟨[], none, 0, rfl, fun h => by simp at h, by simp, fun y hy => by simp at hy⟩
  · simp only [List.cons.injEq, and_true] at e4; subst e4
    rw [r4] at hb
    simp only [Rows.uptoBulk] at hb
    have hlm : len ≤ m := by rw [hm]; split <;> omega
    have hbl := bulkAll_length ((List.range len).map D)
    rw [List.length_map, List.length_range] at hbl
    have each : ∀ i, i < len → ∃ s : ByteArray, w.cell? (a.add i) = some (.string s) ∧ s.size < 1000000000 := by
      intro i hi
      obtain ⟨cs', hc, ht⟩ := hel i (by omega)
      obtain ⟨s, rfl, hs, _⟩ := DataW.trod_string Tryz.underlying9 ht
      have hbi := mem_bulk D len i hi
      have e1 : D i = .lit (.string s.data.toList) := congrArg Prod.fst hs
      rw [e1, bulk_string] at hbi
      have hce : Tryz.prog.cellsOf 9 = 1 := by kernel_rfl
      have h0 := (World.cells?_some hc).2.2
      rw [hce, Nat.mul_one] at h0
      have h0 := h0 0 (by decide)
      have e2 : (a.add i).add 0 = a.add i := by unfold Addr.add; split <;> split <;> simp_all
      rw [e2] at h0
      exact ⟨s, h0, by omega⟩
    let g : Nat → ByteArray := fun i => if h : i < len then (each i h).choose else ⟨#[]⟩
    have hg : ∀ i, i < len → w.cell? (a.add i) = some (.string (g i)) ∧ (g i).size < 1000000000 := by
      intro i hi
      have := (each i hi).choose_spec
      simp only [g, dif_pos hi]; exact this
    refine ⟨(List.range len).map g, some a, cap, by simp, fun h0 => ?_, by rw [List.length_map, List.length_range]; omega, fun y hy => ?_⟩
    · rw [List.length_map, List.length_range] at h0
      obtain ⟨b, o, spot⟩ := a
      have h1 := (hg 0 h0).1
      have hspot : spot = none := World.cell?_spot (by simpa [Addr.add] using h1)
      subst hspot
      refine ⟨b, o, rfl, cells_lt (by simpa [Addr.add] using h1), fun i hi => ?_⟩
      rw [List.length_map, List.length_range] at hi
      have := (hg i hi).1
      rw [List.getElem_map, List.getElem_range]
      have e : (⟨b, o, none⟩ : Addr).add i = ⟨b, o + i, none⟩ := by unfold Addr.add; split <;> simp_all
      rw [← e]; exact this
    · obtain ⟨i, hi, rfl⟩ := List.mem_map.1 hy
      exact (hg i (List.mem_range.1 hi)).2

set_option maxRecDepth 100000 in
set_option maxHeartbeats 1000000 in
/-- Cells that read as a statement are one. -/
theorem read_st {fuel : Nat} {cs : List Value} {x : DataW H × List MemPlace} (h : DataW.trod enc Tryz.prog w 0 spare held fuel 33 cs = some x) (hb : Rows.uptoBulk x.1 ≤ 1048576) :
    ∃ (s : StT) (a : StA), cs = stCells a s ∧ StSz s ∧ StOk w (· < w.heap.size) a s := by
  obtain ⟨xs, n, rfl, rfl, hlen, hxs, hf⟩ := DataW.trod_struct Tryz.underlying33 h
  have hcs : cs.length = 24 := hlen
  match cs, hcs with
  | [v0, v1, v2, v3, v4, v5, v6, v7, v8, v9, v10, v11, v12, v13, v14, v15, v16, v17, v18, v19, v20, v21, v22, v23], _ =>
  match xs, hxs with
  | [x0, x1, x2, x3, x4, x5, x6, x7, x8, x9, x10, x11], _ =>
  simp only [List.map_cons, List.map_nil, Rows.uptoBulk, Rows.uptoBulkAll] at hb
  have h0 := hf 0 _ rfl; have h1 := hf 1 _ rfl; have h2 := hf 2 _ rfl; have h3 := hf 3 _ rfl; have h4 := hf 4 _ rfl; have h5 := hf 5 _ rfl
  have h6 := hf 6 _ rfl; have h7 := hf 7 _ rfl; have h8 := hf 8 _ rfl; have h9 := hf 9 _ rfl; have h10 := hf 10 _ rfl; have h11 := hf 11 _ rfl
  obtain ⟨s0, e0, r0, _⟩ := DataW.trod_string (cs := [v0]) (x := x0) Tryz.underlying9 h0
  obtain ⟨k1, e1, r1, _⟩ := DataW.trod_int (cs := [v1]) (x := x1) Tryz.underlying3 h1
  obtain ⟨p2, a2, c2, e2, z2, q2, t2⟩ := read_expr 1048576 (Nat.le_refl _) n [v2, v3, v4, v5, v6] x2 h2 (by omega)
  obtain ⟨p3, a3, c3, e3, z3, q3, t3⟩ := read_expr 1048576 (Nat.le_refl _) n [v7, v8, v9, v10, v11] x3 h3 (by omega)
  obtain ⟨p4, a4, c4, e4, z4, q4, t4⟩ := read_pat 1048576 (Nat.le_refl _) n [v12, v13, v14, v15, v16] x4 h4 (by omega)
  obtain ⟨s5, e5, r5, _⟩ := DataW.trod_string (cs := [v17]) (x := x5) Tryz.underlying9 h5
  obtain ⟨s6, e6, r6, _⟩ := DataW.trod_string (cs := [v18]) (x := x6) Tryz.underlying9 h6
  obtain ⟨l7, a7, c7, e7, q7, z7, y7⟩ := read_strs (v := v19) (x := x7) h7 (by omega)
  obtain ⟨l8, a8, c8, e8, q8, z8, y8⟩ := read_strs (v := v20) (x := x8) h8 (by omega)
  obtain ⟨s9, e9, r9, _⟩ := DataW.trod_string (cs := [v21]) (x := x9) Tryz.underlying9 h9
  obtain ⟨s10, e10, r10, _⟩ := DataW.trod_string (cs := [v22]) (x := x10) Tryz.underlying9 h10
  obtain ⟨s11, e11, r11, _⟩ := DataW.trod_string (cs := [v23]) (x := x11) Tryz.underlying9 h11
  simp only [List.cons.injEq, and_true] at e0 e1 e2 e3 e4 e5 e6 e9 e10 e11
  subst e0 e1 e5 e6 e7 e8 e9 e10 e11 r0 r5 r6 r9 r10 r11
  obtain ⟨rfl, rfl, rfl, rfl, rfl⟩ := e2
  obtain ⟨rfl, rfl, rfl, rfl, rfl⟩ := e3
  obtain ⟨rfl, rfl, rfl, rfl, rfl⟩ := e4
  dsimp only at hb
  simp only [bulk_string] at hb
  exact ⟨⟨s0, k1, p2, p3, p4, s5, s6, l7, l8, s9, s10, s11⟩, ⟨a2, c2, a3, c3, a4, c4, a7, c7, a8, c8⟩, rfl,
    ⟨by dsimp only; omega, ⟨z2, by dsimp only; omega⟩, ⟨z3, by dsimp only; omega⟩, ⟨z4, by dsimp only; omega⟩, by dsimp only; omega, by dsimp only; omega, ⟨z7, y7⟩, ⟨z8, y8⟩, by dsimp only; omega, by dsimp only; omega, by dsimp only; omega⟩,
    ⟨q2, q3, q4, q7, q8⟩⟩

set_option maxRecDepth 100000 in
/-- A list of statements that comes in. -/
theorem read_sts {fuel : Nat} {v : Value} {x : DataW H × List MemPlace} (h : DataW.trod enc Tryz.prog w 0 spare held fuel 22 [v] = some x) (hb : Rows.uptoBulk x.1 ≤ 1048576) :
    ∃ (l : List StT) (a : Option Addr) (cap : Nat), v = .slice a l.length cap ∧ StsAt w (· < w.heap.size) a l ∧ l.length ≤ 1048576 := by
  rcases open_slice (cs := [v]) (x := x) Tryz.underlying22 h with ⟨e4, r4⟩ | ⟨a, len, cap, m, n', D, Pl, e4, _, hlc, hcm, hm, r4, hel⟩
  · simp only [List.cons.injEq, and_true] at e4; subst e4
    exact ⟨[], none, 0, rfl, fun h => by simp at h, by simp⟩
  · simp only [List.cons.injEq, and_true] at e4; subst e4
    rw [r4] at hb
    simp only [Rows.uptoBulk] at hb
    have hlm : len ≤ m := by rw [hm]; split <;> omega
    have hbl := bulkAll_length ((List.range len).map D)
    rw [List.length_map, List.length_range] at hbl
    have hce : Tryz.prog.cellsOf 33 = 24 := by kernel_rfl
    have each : ∀ i, i < len → ∃ (s : StT) (sa : StA), StSz s ∧ StOk w (· < w.heap.size) sa s ∧ ∀ j (hj : j < 24), w.cell? ((a.add (i * 24)).add j) = some ((stCells sa s)[j]'(by simpa [stCells] using hj)) := by
      intro i hi
      obtain ⟨cs', hc, ht⟩ := hel i (by omega)
      have hbi := mem_bulk D len i hi
      obtain ⟨s, sa, rfl, hz, ho⟩ := read_st ht (by dsimp only; omega)
      refine ⟨s, sa, hz, ho, fun j hj => ?_⟩
      have h0 := (World.cells?_some hc).2.2
      rw [hce] at h0
      have h1 := h0 j hj
      rw [List.getElem?_eq_getElem (by simpa [stCells] using hj)] at h1
      exact h1
    let g : Nat → StT := fun i => if h : i < len then (each i h).choose else ⟨⟨#[]⟩, 0, .mk 0 ⟨#[]⟩ 0 ⟨#[]⟩ [], .mk 0 ⟨#[]⟩ 0 ⟨#[]⟩ [], .mk 0 ⟨#[]⟩ 0 ⟨#[]⟩ [], ⟨#[]⟩, ⟨#[]⟩, [], [], ⟨#[]⟩, ⟨#[]⟩, ⟨#[]⟩⟩
    have hg : ∀ i, i < len → ∃ (sa : StA), StSz (g i) ∧ StOk w (· < w.heap.size) sa (g i) ∧ ∀ j (hj : j < 24), w.cell? ((a.add (i * 24)).add j) = some ((stCells sa (g i))[j]'(by simpa [stCells] using hj)) := by
      intro i hi
      have := (each i hi).choose_spec
      simp only [g, dif_pos hi]; exact this
    refine ⟨(List.range len).map g, some a, cap, by simp, fun h0 => ?_, by rw [List.length_map, List.length_range]; omega⟩
    rw [List.length_map, List.length_range] at h0
    obtain ⟨b, o, spot⟩ := a
    obtain ⟨_, _, _, h1⟩ := hg 0 h0
    have h1 := h1 0 (by decide)
    have hspot : spot = none := World.cell?_spot (by simpa [Addr.add] using h1)
    subst hspot
    refine ⟨b, o, rfl, fun i hi => ?_⟩
    rw [List.length_map, List.length_range] at hi
    obtain ⟨sa, hz, ho, hc⟩ := hg i hi
    rw [List.getElem_map, List.getElem_range]
    have ea : ∀ j, ((⟨b, o, none⟩ : Addr).add (i * 24)).add j = ⟨b, o + i * 24 + j, none⟩ := by
      intro j; unfold Addr.add; split <;> split <;> simp_all
    refine ⟨sa, ?_, hz, fun j hj => by rw [← ea]; exact hc j hj, ho⟩
    have := hc 0 (by decide)
    rw [ea] at this
    exact cells_lt this
end
end Go.Proofs.YtcfcdobgpldoiaaGreatDoor
