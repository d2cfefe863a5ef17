/- Rules that come in. -/
import Derived.Test.YtdkpdomggbiolaaRul
import Derived.Test.YtdkpdomggbiolaaRPat
namespace Go.Proofs.Ytdkpdomggbiolaa
set_option linter.all false
open Go.RowKit Go.Deep

section
variable {H : Type} {enc : TypeId × Value → H} {w : World} {spare : Nat → Bool} {held : Bool}
theorem mem_bulkR {H : Type} (D : Nat → DataW H) (len i : Nat) (hi : i < len) : Rows.uptoBulk (D i) ≤ Rows.uptoBulkAll ((List.range len).map D) := by
  rw [← sum_bulk D]; exact le_sum_map (fun i => Rows.uptoBulk (D i)) _ i (List.mem_range.2 hi)
set_option maxRecDepth 100000 in
theorem read_rule {fuel : Nat} {cs : List Value} {x : DataW H × List MemPlace} (h : DataW.trod enc Try.prog w 0 spare held fuel 39 cs = some x) (hb : Rows.uptoBulk x.1 ≤ 1048576) :
    ∃ (r : RuleT) (ka : Option Addr) (cap : Nat), cs = [.string r.name, .int .i64 r.pat.kind, .string r.pat.text, .int .i64 r.pat.n, .string r.pat.name, .slice ka r.pat.kids.length cap] ∧ r.name.size < 1000000000 ∧ sizeT r.pat ≤ 1048576 ∧
      (r.pat.text.size < 1000000000 ∧ r.pat.name.size < 1000000000 ∧ r.pat.kids.length < 1000000000) ∧ PatsAt w (· < w.heap.size) ka r.pat.kids := by
  obtain ⟨xs, n, rfl, rfl, hlen, hxs, hf⟩ := DataW.trod_struct Try.underlying39 h
  have hcs : cs.length = 6 := hlen
  match cs, hcs with
  | [v0, v1, v2, v3, v4, v5], _ =>
  match xs, hxs with
  | [x0, x1], _ =>
  simp only [List.map_cons, List.map_nil, Rows.uptoBulk, Rows.uptoBulkAll] at hb
  have h0 := hf 0 _ rfl; have h1 := hf 1 _ rfl
  obtain ⟨s0, e0, r0, _⟩ := DataW.trod_string (cs := [v0]) (x := x0) Try.underlying9 h0
  obtain ⟨p, ka, cap, e1, z1, q1, t1⟩ := read_pat 1048576 (Nat.le_refl _) n [v1, v2, v3, v4, v5] x1 h1 (by omega)
  simp only [List.cons.injEq, and_true] at e0
  subst e0 r0
  obtain ⟨rfl, rfl, rfl, rfl, rfl⟩ := e1
  dsimp only at hb
  simp only [bulk_string] at hb
  exact ⟨⟨s0, p⟩, ka, cap, rfl, by dsimp only; omega, by dsimp only; omega, z1, q1⟩
set_option maxRecDepth 100000 in
/-- A list of rules that comes in. -/
theorem read_rules {fuel : Nat} {v : Value} {x : DataW H × List MemPlace} (h : DataW.trod enc Try.prog w 0 spare held fuel 22 [v] = some x) (hb : Rows.uptoBulk x.1 ≤ 1048576) :
    ∃ (l : List RuleT) (a : Option Addr) (cap : Nat), v = .slice a l.length cap ∧ RulesAt w (· < w.heap.size) a l ∧ l.length ≤ 1048576 ∧ l.length ≤ cap := by
  rcases open_slice (cs := [v]) (x := x) Try.underlying22 h with ⟨e4, r4⟩ | ⟨a, len, cap, m, n', D, Pl, e4, _, hlc, hcm, hm, r4, hel⟩
  · simp only [List.cons.injEq, and_true] at e4; subst e4
    exact ⟨[], none, 0, rfl, fun h => by simp at h, by simp, by simp⟩
  · simp only [List.cons.injEq, and_true] at e4; subst e4
    rw [r4] at hb
    simp only [Rows.uptoBulk] at hb
    have hlm : len ≤ m := by rw [hm]; split <;> omega
    have hbl := bulkAll_length ((List.range len).map D)
    rw [List.length_map, List.length_range] at hbl
    have hce : Try.prog.cellsOf 39 = 6 := by kernel_rfl
    have each : ∀ i, i < len → ∃ (r : RuleT) (ka : Option Addr) (cap : Nat), r.name.size < 1000000000 ∧ sizeT r.pat ≤ 1048576 ∧ (r.pat.text.size < 1000000000 ∧ r.pat.name.size < 1000000000 ∧ r.pat.kids.length < 1000000000) ∧ PatsAt w (· < w.heap.size) ka r.pat.kids ∧
        w.cell? ((a.add (i * 6)).add 0) = some (.string r.name) ∧ w.cell? ((a.add (i * 6)).add 1) = some (.int .i64 r.pat.kind) ∧ w.cell? ((a.add (i * 6)).add 2) = some (.string r.pat.text) ∧ w.cell? ((a.add (i * 6)).add 3) = some (.int .i64 r.pat.n) ∧
        w.cell? ((a.add (i * 6)).add 4) = some (.string r.pat.name) ∧ w.cell? ((a.add (i * 6)).add 5) = some (.slice ka r.pat.kids.length cap) := by
      intro i hi
      obtain ⟨cs', hc, ht⟩ := hel i (by omega)
      have hbi := mem_bulkR D len i hi
      obtain ⟨r, ka, cap, rfl, hz, hs, hy, ho⟩ := read_rule ht (by dsimp only; omega)
      have h0 := (World.cells?_some hc).2.2
      rw [hce] at h0
      exact ⟨r, ka, cap, hz, hs, hy, ho, h0 0 (by decide), h0 1 (by decide), h0 2 (by decide), h0 3 (by decide), h0 4 (by decide), h0 5 (by decide)⟩
    let g : Nat → RuleT := fun i => if h : i < len then (each i h).choose else ⟨⟨#[]⟩, .mk 0 ⟨#[]⟩ 0 ⟨#[]⟩ []⟩
    have hg : ∀ i, i < len → ∃ (ka : Option Addr) (cap : Nat), (g i).name.size < 1000000000 ∧ sizeT (g i).pat ≤ 1048576 ∧ ((g i).pat.text.size < 1000000000 ∧ (g i).pat.name.size < 1000000000 ∧ (g i).pat.kids.length < 1000000000) ∧ PatsAt w (· < w.heap.size) ka (g i).pat.kids ∧
        w.cell? ((a.add (i * 6)).add 0) = some (.string (g i).name) ∧ w.cell? ((a.add (i * 6)).add 1) = some (.int .i64 (g i).pat.kind) ∧ w.cell? ((a.add (i * 6)).add 2) = some (.string (g i).pat.text) ∧ w.cell? ((a.add (i * 6)).add 3) = some (.int .i64 (g i).pat.n) ∧
        w.cell? ((a.add (i * 6)).add 4) = some (.string (g i).pat.name) ∧ w.cell? ((a.add (i * 6)).add 5) = some (.slice ka (g i).pat.kids.length cap) := by
      intro i hi
      have := (each i hi).choose_spec
      simp only [g, dif_pos hi]; exact this
    refine ⟨(List.range len).map g, some a, cap, by simp, fun h0 => ?_, by rw [List.length_map, List.length_range]; omega, by rw [List.length_map, List.length_range]; omega⟩
    rw [List.length_map, List.length_range] at h0
    obtain ⟨b, o, spot⟩ := a
    obtain ⟨_, _, _, _, _, _, h1, _⟩ := hg 0 h0
    have hspot : spot = none := World.cell?_spot (by simpa [Addr.add] using h1)
    subst hspot
    refine ⟨b, o, rfl, fun i hi => ?_⟩
    rw [List.length_map, List.length_range] at hi
    obtain ⟨ka, kc, hz, hs, hy, hk, q0, q1, q2, q3, q4, q5⟩ := hg i hi
    rw [List.getElem_map, List.getElem_range]
    have ea : ∀ j, ((⟨b, o, none⟩ : Addr).add (i * 6)).add j = ⟨b, o + i * 6 + j, none⟩ := by
      intro j; unfold Addr.add; split <;> split <;> simp_all
    rw [ea] at q0 q1 q2 q3 q4 q5
    have hlt := cells_lt q0
    refine ⟨hlt, hz, hs, q0, ?_⟩
    generalize hgp : (g i).pat = gp at *
    obtain ⟨k, t, n, nm, kids⟩ := gp
    unfold PatAt
    exact ⟨hlt, hy, q1, q2, q3, q4, ka, kc, q5, hk⟩
end
end Go.Proofs.Ytdkpdomggbiolaa
