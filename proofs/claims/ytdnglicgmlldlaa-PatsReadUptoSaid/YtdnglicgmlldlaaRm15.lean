/- The walk of PatsRead. A pattern that comes in, as a tree. How a law that answers true, and leaves its arguments alone, becomes its row. -/
import Derived.Test.YtdnglicgmlldlaaRm14
import Derived.Test.YtdnglicgmlldlaaRows
import Derived.Deep.Slices
import Derived.ProofKit
import Derived.OpenShut
import Derived.JoinedCond
import Derived.ChangeSame
import Derived.Carry
namespace Go.Proofs.Ytdnglicgmlldlaa
open Go.RowKit

/-- What Read answers: the pattern (an empty one at a fault), and the fault. -/
def readQ (s : ByteArray) : PatT × Er := match readP s with | .ok p => (p, (0, 0)) | .error er => (.mk 0 E0 0 E0 [], er)
def ReadV (s : ByteArray) (w : World) (e : Ending) (w' : World) : Prop := Kept Nix w w' ∧ ∃ v, e = .returned (.tuple #[v, faultV (readQ s).2]) ∧ patVal w.heap.size (readQ s).1 w' v
theorem read_v {s : ByteArray} {w w' : World} {e : Ending} (h : ReadPost s w e w') : ReadV s w e w' := by
  obtain ⟨k, h⟩ := h
  refine ⟨k, ?_⟩
  unfold readQ
  cases hr : readP s with
  | ok p => rw [hr] at h; exact h
  | error er =>
    rw [hr] at h
    exact ⟨zeroV, h, Nix, fun b hb => hb.elim, none, 0, rfl, ⟨by show E0.size < _; decide, by show E0.size < _; decide, by show 0 < _; decide⟩, by unfold PatsAt; trivial⟩
theorem readQ_sz (s : ByteArray) : sizeT (readQ s).1 ≤ 200000 := by
  unfold readQ readP
  by_cases hl : 65536 < s.size
  · rw [if_pos hl]; dsimp only; simp [sizeT, sizeL]
  · rw [if_neg hl]
    cases ha : altP (innerP s 200) s 0 with
    | error e => dsimp only; simp [sizeT, sizeL]
    | ok y =>
      obtain ⟨p, k⟩ := y
      have := (read_sz (by omega) ha).1
      dsimp only
      by_cases h1 : 0 ≤ peek s (skip s k)
      · rw [if_pos h1]; dsimp only; simp [sizeT, sizeL]
      · rw [if_neg h1]
        by_cases h2 : fits p
        · rw [if_pos h2]; exact this
        · rw [if_neg h2]; dsimp only; simp [sizeT, sizeL]

set_option maxRecDepth 100000 in
set_option maxHeartbeats 2000000 in
theorem read_walk (s : ByteArray) (w : World) (hs : s.size ≤ maxLen) : Calls Try.prog 3 #[.string s] w (BoolQ true w) := by
  have hsz := readQ_sz s
  go_enter Try.func3, Try.ntmps3
  go_wp2_with fail
  refine (read_any s w hs).mono ?_
  intro e w1 h
  obtain ⟨K1, v, rfl, S1, hS1, ⟨ka, cap, rfl, hz, hk⟩⟩ := read_v h
  clear h
  generalize hp : (readQ s).1 = p at *
  generalize he : (readQ s).2 = er at *
  obtain ⟨f0, f1⟩ := er
  have kA : Kept Nix w1 ((w1.alloc (.cells #[.int .i64 p.kind, .string p.text, .int .i64 p.n, .string p.name, .slice ka p.kids.length cap] 24)).alloc (.cells #[.int .i64 f0, .int .i64 f1] 27)) := ((Kept.refl Nix _).alloc _).alloc _
  have F2 : Hid (Five w1.heap.size (.int .i64 p.kind) (.string p.text) (.int .i64 p.n) (.string p.name) (.slice ka p.kids.length cap) ((w1.alloc (.cells #[.int .i64 p.kind, .string p.text, .int .i64 p.n, .string p.name, .slice ka p.kids.length cap] 24)).alloc (.cells #[.int .i64 f0, .int .i64 f1] 27))) := Five.kept (heap_alloc_new w1 _) ((Kept.refl Nix _).alloc _) (fun h => h)
  have T2 : Hid (Two (w1.heap.size + 1) (.int .i64 f0) (.int .i64 f1) ((w1.alloc (.cells #[.int .i64 p.kind, .string p.text, .int .i64 p.n, .string p.name, .slice ka p.kids.length cap] 24)).alloc (.cells #[.int .i64 f0, .int .i64 f1] 27))) := heap_new2 (by simp)
  have HK2 := Lib.hid (hk.kept kA (fun b hb => ⟨(hS1 b hb).2, fun h => h⟩))
  have KK2 := Lib.hid (K1.trans kA)
  have hs1 : Hid (∀ b, S1 b → b < ((w1.alloc (.cells #[.int .i64 p.kind, .string p.text, .int .i64 p.n, .string p.name, .slice ka p.kids.length cap] 24)).alloc (.cells #[.int .i64 f0, .int .i64 f1] 27)).heap.size) := fun b hb => Nat.lt_of_lt_of_le (hS1 b hb).2 kA.size
  have HZ := Lib.hid hz
  clear kA hk hS1 hz K1
  unfold faultV
  go_wp2_with fail
  refine (rread_any s _ hs).mono ?_
  intro e w3 h
  obtain ⟨K3, v, rfl, S3, hS3, ⟨kb, cbp, rfl, hz3, hk3⟩⟩ := read_v h
  clear h
  rw [hp] at hz3 hk3 ⊢
  rw [he]
  have F3 := F2.out.kept K3 (fun h => h)
  have T3 := T2.out.kept K3 (fun h => h)
  have HK3 := HK2.out.kept K3 (fun b hb => ⟨hs1.out b hb, fun h => h⟩)
  have kB : Kept Nix w3 ((w3.alloc (.cells #[.int .i64 p.kind, .string p.text, .int .i64 p.n, .string p.name, .slice kb p.kids.length cbp] 24)).alloc (.cells #[.int .i64 f0, .int .i64 f1] 27)) := ((Kept.refl Nix _).alloc _).alloc _
  obtain ⟨w4, hw4⟩ : ∃ w4, w4 = ((w3.alloc (.cells #[.int .i64 p.kind, .string p.text, .int .i64 p.n, .string p.name, .slice kb p.kids.length cbp] 24)).alloc (.cells #[.int .i64 f0, .int .i64 f1] 27)) := ⟨_, rfl⟩
  have P4 : Hid (Five w3.heap.size (.int .i64 p.kind) (.string p.text) (.int .i64 p.n) (.string p.name) (.slice kb p.kids.length cbp) w4) := by rw [hw4]; exact Five.kept (heap_alloc_new w3 _) ((Kept.refl Nix _).alloc _) (fun h => h)
  have U4 : Hid (Two (w3.heap.size + 1) (.int .i64 f0) (.int .i64 f1) w4) := by rw [hw4]; exact heap_new2 (by simp)
  rw [← hw4] at kB
  have h13 := K3.size
  have h34 := kB.size
  have F4 := Lib.hid (F3.kept kB (fun h => h))
  have T4 := Lib.hid (T3.kept kB (fun h => h))
  have KK4 := Lib.hid ((KK2.out.trans K3).trans kB)
  have V1 : Hid (PatV w4 S1 (.agg #[.int .i64 p.kind, .string p.text, .int .i64 p.n, .string p.name, .slice ka p.kids.length cap]) p) := ⟨ka, cap, rfl, HZ.out, HK3.kept kB (fun b hb => ⟨by have := hs1.out b hb; omega, fun h => h⟩)⟩
  have V2 : Hid (PatV w4 S3 (.agg #[.int .i64 p.kind, .string p.text, .int .i64 p.n, .string p.name, .slice kb p.kids.length cbp]) p) := ⟨kb, cbp, rfl, hz3, hk3.kept kB (fun b hb => ⟨(hS3 b hb).2, fun h => h⟩)⟩
  have D1 : Hid (Safe S1 Nix w4.heap.size) := fun b hb => ⟨by have := hs1.out b hb; omega, fun h => h⟩
  have D2 : Hid (Safe S3 Nix w4.heap.size) := fun b hb => ⟨by have := (hS3 b hb).2; omega, fun h => h⟩
  have HW4 := Lib.hid hw4
  clear hw4 kB K3 F3 T3 HK3 hz3 hk3 hS3 F2 T2 HK2 KK2 hs1 hp he
  unfold faultV
  go_upto_region 3 with fail
  rw [← HW4.out]
  obtain ⟨x0, x1, x2, x3, x4, _⟩ := F4.out.cells
  obtain ⟨y0, y1, y2, y3, y4, _⟩ := P4.out.cells
  go_wp2_with fail
  refine (same_any 200000 p _ _ S1 S3 _ (by omega) (by decide) V1.out V2.out D1.out D2.out).mono ?_
  rintro e w5 ⟨rfl, K5⟩
  obtain ⟨t0, t1, _⟩ := (T4.out.kept K5 (fun h => h)).cells
  obtain ⟨u0, u1, _⟩ := (U4.out.kept K5 (fun h => h)).cells
  have KK5 := Lib.hid (KK4.out.trans K5)
  clear x0 x1 x2 x3 x4 y0 y1 y2 y3 y4 K5
  go_wp2_with fail
  go_ret
  exact ⟨by simp, KK5.out⟩
end Go.Proofs.Ytdnglicgmlldlaa
namespace Go.Proofs.Ytdnglicgmlldlaa
open Go.RowKit Go.Deep

theorem one_le_bulk {H : Type} (d : DataW H) : 1 ≤ Rows.uptoBulk d := by
  cases d with
  | lit l => cases l <;> simp [Rows.uptoBulk]
  | nil => simp [Rows.uptoBulk]
  | ptr d => simp [Rows.uptoBulk]
  | slice elems spare => simp [Rows.uptoBulk]
  | agg parts => simp [Rows.uptoBulk]
  | iface t d => simp [Rows.uptoBulk]
  | map entries => simp [Rows.uptoBulk]
  | held h => simp [Rows.uptoBulk]
theorem bulk_string {H : Type} (s : ByteArray) : Rows.uptoBulk (DataW.lit (H := H) (.string s.data.toList)) = s.size + 1 := by
  simp only [Rows.uptoBulk]; rfl
theorem bulkAll_length {H : Type} : ∀ (l : List (DataW H)), l.length ≤ Rows.uptoBulkAll l
  | [] => by simp [Rows.uptoBulkAll]
  | x :: r => by have := one_le_bulk x; have := bulkAll_length r; simp only [Rows.uptoBulkAll, List.length_cons]; omega

section
variable {H : Type} {enc : TypeId × Value → H} {w : World} {spare : Nat → Bool} {held : Bool}

theorem cells_lt {a : Addr} {v : Value} (h : w.cell? a = some v) : a.block < w.heap.size := by
  unfold World.cell? at h
  cases hb : w.heap[a.block]? with
  | none => rw [hb] at h; simp at h
  | some o => exact (Array.getElem?_eq_some_iff.1 hb).1
theorem mk_pats (S : Nat → Prop) (b : Nat) : ∀ (len o : Nat) (B : Nat → Nat), (∀ i, i < len → ∃ p, PatAt w S b (o + i * 5) p ∧ sizeT p ≤ B i) →
    ∃ l : List PatT, l.length = len ∧ PatsAt w S (some ⟨b, o, none⟩) l ∧ sizeL l ≤ ((List.range len).map B).sum
  | 0, o, B, _ => ⟨[], rfl, by unfold PatsAt; trivial, by simp [sizeL]⟩
  | len + 1, o, B, h => by
    obtain ⟨p, hp, hs⟩ := h 0 (by omega)
    obtain ⟨l, hl, hk, hsl⟩ := mk_pats S b len (o + 5) (fun i => B (i + 1)) (fun i hi => by
      obtain ⟨q, hq, hqs⟩ := h (i + 1) (by omega)
      exact ⟨q, by rw [show o + 5 + i * 5 = o + (i + 1) * 5 by omega]; exact hq, hqs⟩)
    refine ⟨p :: l, by simp [hl], ?_, ?_⟩
    · unfold PatsAt; exact ⟨b, o, rfl, by simpa using hp, hk⟩
    · rw [sizeL, List.range_succ_eq_map, List.map_cons, List.sum_cons, List.map_map]
      exact Nat.add_le_add hs hsl
theorem le_sum_map (f : Nat → Nat) : ∀ (l : List Nat) (i : Nat), i ∈ l → f i ≤ (l.map f).sum
  | [], i, h => by simp at h
  | j :: r, i, h => by
    rw [List.map_cons, List.sum_cons]
    rcases List.mem_cons.1 h with rfl | h
    · omega
    · have := le_sum_map f r i h; omega
theorem sum_bulk (D : Nat → DataW H) : ∀ (l : List Nat), (l.map fun i => Rows.uptoBulk (D i)).sum = Rows.uptoBulkAll (l.map D)
  | [] => by simp [Rows.uptoBulkAll]
  | i :: r => by simp only [List.map_cons, List.sum_cons, Rows.uptoBulkAll, sum_bulk D r]

set_option maxRecDepth 100000 in
/-- Cells that read as a pattern are one. -/
theorem read_pat : ∀ (N : Nat), N ≤ 1048576 → ∀ (fuel : Nat) (cs : List Value) (x : DataW H × List MemPlace), DataW.trod enc Try.prog w 0 spare held fuel 24 cs = some x → Rows.uptoBulk x.1 ≤ N →
    ∃ p ka cap, cs = [.int .i64 (PatT.kind p), .string p.text, .int .i64 p.n, .string p.name, .slice ka p.kids.length cap] ∧ (p.text.size < 1000000000 ∧ p.name.size < 1000000000 ∧ p.kids.length < 1000000000) ∧ PatsAt w (· < w.heap.size) ka p.kids ∧ sizeT p ≤ Rows.uptoBulk x.1 := by
  intro N
  induction N with
  | zero => intro _ fuel cs x h hb; have := one_le_bulk x.1; omega
  | succ N ih =>
  intro hN fuel cs x h hb
  obtain ⟨xs, n, rfl, rfl, hlen, hxs, hf⟩ := DataW.trod_struct Try.underlying24 h
  have hcs : cs.length = 5 := hlen
  match cs, hcs with
  | [v0, v1, v2, v3, v4], _ =>
  match xs, hxs with
  | [x0, x1, x2, x3, x4], _ =>
  have h0 := hf 0 _ rfl; have h1 := hf 1 _ rfl; have h2 := hf 2 _ rfl; have h3 := hf 3 _ rfl; have h4 := hf 4 _ rfl
  obtain ⟨k, e0, r0, _⟩ := DataW.trod_int (cs := [v0]) (x := x0) Try.underlying3 h0
  obtain ⟨t, e1, r1, _⟩ := DataW.trod_string (cs := [v1]) (x := x1) Try.underlying9 h1
  obtain ⟨nn, e2, r2, _⟩ := DataW.trod_int (cs := [v2]) (x := x2) Try.underlying3 h2
  obtain ⟨nm, e3, r3, _⟩ := DataW.trod_string (cs := [v3]) (x := x3) Try.underlying9 h3
  simp only [List.cons.injEq, and_true] at e0 e1 e2 e3
  subst e0 e1 e2 e3 r0 r1 r2 r3
  simp only [List.map_cons, List.map_nil, Rows.uptoBulk, Rows.uptoBulkAll] at hb ⊢
  have zt : t.data.toList.length = t.size := rfl
  have zn : nm.data.toList.length = nm.size := rfl
  rw [zt, zn] at hb ⊢
  rcases open_slice (cs := [v4]) (x := x4) Try.underlying22 h4 with ⟨e4, r4⟩ | ⟨a, len, cap, m, n', D, Pl, e4, _, hlc, hcm, hm, r4, hel⟩
  · simp only [List.cons.injEq, and_true] at e4; subst e4 r4
    refine ⟨.mk k t nn nm [], none, 0, rfl, ⟨?_, ?_, by simp⟩, by unfold PatsAt; trivial, by simp only [sizeT, sizeL]; omega⟩
    · rw [PatT.text_mk]; omega
    · rw [PatT.name_mk]; omega
  · simp only [List.cons.injEq, and_true] at e4; subst e4
    rw [r4] at hb ⊢
    simp only [Rows.uptoBulk] at hb ⊢
    have hlm : len ≤ m := by rw [hm]; split <;> omega
    have hbl := bulkAll_length ((List.range len).map D)
    rw [List.length_map, List.length_range] at hbl
    have hsum := sum_bulk D (List.range len)
    have hfin : ∃ l : List PatT, l.length = len ∧ PatsAt w (· < w.heap.size) (some a) l ∧ sizeL l ≤ Rows.uptoBulkAll ((List.range len).map D) := by
      cases len with
      | zero => exact ⟨[], rfl, by unfold PatsAt; trivial, by simp [sizeL]⟩
      | succ len =>
        obtain ⟨cs0, hc0, _⟩ := hel 0 (by omega)
        have hc0' := (World.cells?_some hc0).2.2 0 (by decide)
        have hl0 := (World.cells?_some hc0).2.1
        obtain ⟨b, o, spot⟩ := a
        have hspot : spot = none := by
          have hx : ∃ u, w.cell? ((⟨b, o, spot⟩ : Addr).add (0 * Try.prog.cellsOf 24)) = some u := by
            have : 0 < cs0.length := by rw [hl0]; decide
            exact ⟨cs0[0], by simpa [Addr.add, List.getElem?_eq_getElem this] using hc0'⟩
          obtain ⟨u, hu⟩ := hx
          simpa [Addr.add] using World.cell?_spot hu
        subst hspot
        obtain ⟨l, hl, hk, hs⟩ := mk_pats (w := w) (· < w.heap.size) b (len + 1) o (fun i => Rows.uptoBulk (D i)) (fun i hi => by
          obtain ⟨cs', hc, ht⟩ := hel i (by omega)
          have hbi : Rows.uptoBulk (D i) ≤ Rows.uptoBulkAll ((List.range (len + 1)).map D) := by
            rw [← hsum]; exact le_sum_map (fun i => Rows.uptoBulk (D i)) _ i (List.mem_range.2 hi)
          obtain ⟨p, ka, cp, rfl, hz, hkk, hsz⟩ := ih (by omega) n' cs' _ ht (by simp only; omega)
          obtain ⟨_, _, hcell⟩ := World.cells?_some hc
          have ea : ∀ j, ((⟨b, o, none⟩ : Addr).add (i * Try.prog.cellsOf 24)).add j = ⟨b, o + i * 5 + j, none⟩ := by
            intro j
            have e5 : Try.prog.cellsOf 24 = 5 := by kernel_rfl
            rw [e5]; unfold Addr.add; split <;> split <;> simp_all <;> omega
          have c0 := hcell 0 (by decide); have c1 := hcell 1 (by decide); have c2 := hcell 2 (by decide); have c3 := hcell 3 (by decide); have c4 := hcell 4 (by decide)
          rw [ea] at c0 c1 c2 c3 c4
          refine ⟨p, ?_, hsz⟩
          obtain ⟨k, t, nn, nm, kids⟩ := p
          unfold PatAt
          exact ⟨cells_lt c0, hz, c0, c1, c2, c3, ka, cp, c4, hkk⟩)
        exact ⟨l, hl, hk, by rw [← hsum]; exact hs⟩
    obtain ⟨l, rfl, hk, hs⟩ := hfin
    refine ⟨.mk k t nn nm l, some a, cap, rfl, ⟨?_, ?_, ?_⟩, hk, ?_⟩
    · rw [PatT.text_mk]; omega
    · rw [PatT.name_mk]; omega
    · rw [PatT.kids_mk]; omega
    · simp only [sizeT]; omega
end
end Go.Proofs.Ytdnglicgmlldlaa
namespace Go.Proofs.Ytdnglicgmlldlaa
open Go.RowKit Go.ChangeShapes Go.WideShapes Go.ChangeAt Go.ChangeMaps

theorem own_knob : ownKnob Try.prog.godebug = none := by kernel_rfl
theorem laid_out : laidOutB Try.prog = true := by kernel_rfl

section
variable {H : Type} {enc : TypeId × Value → H}
theorem trodAll_stays {W W' : World} (hb : Below W.heap.size W W') {sp : Nat → Bool} : ∀ {ts : List TypeId} {vs : List Value} {ds : List (DataW H)} {ps : List MemPlace},
    (∀ t ∈ ts, Try.prog.readableRec t = true ∧ t < Try.prog.types.size) → DataW.TrodAll enc Try.prog W 0 (fun _ => true) true ts vs ds ps → (∀ x ∈ ps, x.block < W.heap.size) → (∀ x ∈ ps, sp x.block = true) →
    DataW.TrodAll enc Try.prog W' 0 sp true ts vs ds ps
  | [], [], [], _, _, h, _, _ => h
  | _ :: _, _ :: _, _ :: _, _, ht, ⟨p, q, h1, h2, e⟩, hl, hs =>
    ⟨p, q, WideElems.Trod_stays laid_out (ht _ (by simp)).1 (ht _ (by simp)).2 h1 (fun x hx => hb.same (hl x (by rw [e]; exact List.mem_append_left _ hx))) (fun x hx => hs x (by rw [e]; exact List.mem_append_left _ hx)),
      trodAll_stays hb (fun t h => ht t (by simp [h])) h2 (fun x hx => hl x (by rw [e]; exact List.mem_append_right _ hx)) (fun x hx => hs x (by rw [e]; exact List.mem_append_right _ hx)), e⟩

set_option maxRecDepth 100000 in
theorem post_law {f : Func} {s : ChangeSpec} {apart fresh handsOn again : Bool} {W W' : World} {args : Array Value} {ds gs : List (DataW H)} {before : List MemPlace}
    (hW : DataW.Whole enc Try.prog f.params.toList s.vars apart W args.toList ds gs before) (hvars : s.vars = []) (hres : f.resultTypes = #[4])
    (hread : ∀ t ∈ f.params.toList, Try.prog.readableRec t = true ∧ t < Try.prog.types.size)
    (hfn : s.fn H ds = { results := [.lit (.bool true)], args := ds }) (hb : Below W.heap.size W W') :
    s.post enc Try.prog f apart fresh handsOn again W args (.bool true) W' := by
  have hlt : ∀ p ∈ before, p.block < W.heap.size := fun p hp => hW.lt p hp
  have hold : ∀ p ∈ before, (fun b => decide (b < W.heap.size)) p.block = true := fun p hp => by simpa using hlt p hp
  obtain ⟨p, q, hA0, hV, he, hz, hn⟩ := id hW
  rw [hvars] at hV
  obtain ⟨rfl, rfl⟩ := trodVars_none hV
  rw [List.append_nil] at he
  subst he
  have hA : DataW.TrodAll enc Try.prog W 0 (fun _ => true) true f.params.toList args.toList ds before := hA0
  have hr1 : ∀ (b : Nat) (sp : Nat → Bool) (hd : Bool), DataW.TrodAll enc Try.prog W' b sp hd f.resultTypes.toList ((Value.bool true).resultList f.resultTypes.size) (s.fn H (ds ++ [])).results [] := by
    intro b sp hd
    rw [List.append_nil, hfn, hres]
    exact trodAll_cons_mk (shut_bool Try.underlying4 _) trodAll_mk0
  have hargs : ∀ sp : Nat → Bool, (∀ p ∈ before, sp p.block = true) → DataW.TrodAll enc Try.prog W' 0 sp true f.params.toList args.toList (s.fn H (ds ++ [])).args before := by
    intro sp hsp
    rw [List.append_nil, hfn]
    exact trodAll_stays hb hread hA hlt hsp
  have hvr : ∀ sp : Nat → Bool, DataW.TrodVars enc Try.prog W' sp s.vars (s.fn H (ds ++ [])).vars [] := by
    intro sp
    rw [hvars, List.append_nil, hfn]; rfl
  refine ⟨ds, [], before, [], before, [], hW, hr1 _ _ _, hargs _ hold, hvr _, World.keptBut_mono (fun p hp => ⟨hp, .inr (.inl hp)⟩) (hb.frame (· ∈ before)), fun _ => ?_⟩
  refine ⟨?_, _, _, ([] ++ before) ++ [], ⟨[] ++ before, [], trodAll_append (hargs _ (fun _ _ => rfl)) (hr1 _ _ _), hvr _, rfl, ?_, ?_⟩, ?_⟩
  · exact ok_one hres rfl (okWide_bool_mk Try.underlying4 _)
  · intro b off hp
    have hin : MemPlace.cell b off ∈ before := by simpa using hp
    rw [hb.frozen (hlt _ hin)]
    exact hz b off hin
  · intro ha
    simpa using hn ha
  · intro p hp _
    simpa using hp
end
end Go.Proofs.Ytdnglicgmlldlaa
