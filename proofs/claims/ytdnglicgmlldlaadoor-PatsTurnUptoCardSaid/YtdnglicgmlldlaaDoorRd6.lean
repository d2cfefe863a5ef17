/- The reader of patterns: inner, primary. -/
import Derived.Test.YtdnglicgmlldlaaDoorRd5
namespace Go.Proofs.YtdnglicgmlldlaaDoor
open Go.RowKit

theorem e0_lt : E0.size < 1000000000 := by decide
theorem len0_lt : ([] : List PatT).length < 1000000000 := by decide
theorem len1_lt (p : PatT) : [p].length < 1000000000 := by simp
def patVal (B : Nat) (p : PatT) (w' : World) (v : Value) : Prop := ∃ S : Nat → Prop, (∀ b, S b → B ≤ b ∧ b < w'.heap.size) ∧ PatV w' S v p
def InnerOk (N W : Nat) (s : ByteArray) (d : Nat) (inner : Nat → Res PatT) : Prop :=
  ∀ (i : Nat) (w : World), Rdr N W s i d w → i ≤ s.size → Calls Tryd.prog 51 #[.pointer (some ⟨N, 0, none⟩)] w (RPost N W s d (inner i) (patVal w.heap.size) w)

/-- A result's five cells at block M. -/
def Five (M : Nat) (c0 c1 c2 c3 c4 : Value) (w : World) : Prop := w.heap[M]? = some (.cells #[c0, c1, c2, c3, c4] 24 (0, 0))
theorem Five.lt {M : Nat} {c0 c1 c2 c3 c4 : Value} {w : World} (h : Five M c0 c1 c2 c3 c4 w) : M < w.heap.size := (Array.getElem?_eq_some_iff.1 h).1
theorem Five.kept {M : Nat} {c0 c1 c2 c3 c4 : Value} {w w' : World} {X : Nat → Prop} (h : Five M c0 c1 c2 c3 c4 w) (hk : Kept X w w') (hx : ¬ X M) : Five M c0 c1 c2 c3 c4 w' := by
  unfold Five; rw [hk.block M h.lt hx]; exact h
theorem Five.cells {M : Nat} {c0 c1 c2 c3 c4 : Value} {w : World} (h : Five M c0 c1 c2 c3 c4 w) : w.cell? ⟨M, 0, none⟩ = some c0 ∧ w.cell? ⟨M, 1, none⟩ = some c1 ∧ w.cell? ⟨M, 2, none⟩ = some c2 ∧ w.cell? ⟨M, 3, none⟩ = some c3 ∧ w.cell? ⟨M, 4, none⟩ = some c4 ∧ ∀ o, w.frozen? ⟨M, o, none⟩ = false := by
  unfold Five at h
  refine ⟨?_, ?_, ?_, ?_, ?_, fun o => by simp [World.frozen?, h]⟩ <;> (rw [cell_of_row w M _ _ _ _ h]; rfl)
def set5 (w : World) (M : Nat) (c0 c1 c2 c3 c4 : Value) : World := ((((w.setCell ⟨M, 0, none⟩ c0).setCell ⟨M, 1, none⟩ c1).setCell ⟨M, 2, none⟩ c2).setCell ⟨M, 3, none⟩ c3).setCell ⟨M, 4, none⟩ c4
theorem Five.set5 {M : Nat} {z0 z1 z2 z3 z4 : Value} {w : World} (h : Five M z0 z1 z2 z3 z4 w) (c0 c1 c2 c3 c4 : Value) : Five M c0 c1 c2 c3 c4 (set5 w M c0 c1 c2 c3 c4) := by
  unfold Five at h ⊢
  unfold Go.Proofs.YtdnglicgmlldlaaDoor.set5
  rw [row_setCell (row_setCell (row_setCell (row_setCell (row_setCell h _) _) _) _) _]; rfl
theorem Kept.set5 {X : Nat → Prop} {a w : World} (h : Kept X a w) {M : Nat} (hM : X M ∨ a.heap.size ≤ M) (c0 c1 c2 c3 c4 : Value) : Kept X a (set5 w M c0 c1 c2 c3 c4) :=
  ((((h.setCell (p := ⟨M, 0, none⟩) hM _).setCell (p := ⟨M, 1, none⟩) hM _).setCell (p := ⟨M, 2, none⟩) hM _).setCell (p := ⟨M, 3, none⟩) hM _).setCell (p := ⟨M, 4, none⟩) hM _
theorem results_five {f : Func} (hres : f.results = #[.cell 2 24]) {tmps : Array Value} {M : Nat} (ht : tmps.getD 2 undef = .pointer (some ⟨M, 0, none⟩)) {c0 c1 c2 c3 c4 : Value} {w : World} (h : Five M c0 c1 c2 c3 c4 w) :
    (results f tmps).run Tryd.prog w = .ok (.agg #[c0, c1, c2, c3, c4]) w := by
  obtain ⟨h0, h1, h2, h3, h4, _⟩ := h.cells
  have ht' : tmps[2]?.getD undef = .pointer (some ⟨M, 0, none⟩) := by rw [← ht, Array.getD_eq_getD_getElem?]
  simp [results, hres, go_sem, ht', h0, h1, h2, h3, h4]
/-- The end of a function of the reader that answers a pattern: w2: before the answer's five cells are written; w': behind. -/
theorem ret_patG {f : Func} (hres : f.results = #[.cell 2 24]) {tmps : Array Value} {M N W : Nat} {s : ByteArray} {d k : Nat} {r : Res PatT} {p : PatT} {w w2 w' : World} {ka : Option Addr} {cap : Nat} {S : Nat → Prop}
    (ht : tmps.getD 2 undef = .pointer (some ⟨M, 0, none⟩)) (F : Five M (.int .i64 p.kind) (.string p.text) (.int .i64 p.n) (.string p.name) (.slice ka p.kids.length cap) w') (K5 : Kept (· = M) w2 w') (R : Rdr N W s k d w2) (K : Kept (· = N) w w2) (hM : w.heap.size ≤ M) (hN : N < w.heap.size) (hW : W < w.heap.size)
    (hr : r = .ok (p, k)) (hz : p.text.size < 1000000000 ∧ p.name.size < 1000000000 ∧ p.kids.length < 1000000000) (hS : ∀ b, S b → w.heap.size ≤ b ∧ b < w2.heap.size ∧ b ≠ M) (hp : PatsAt w2 S ka p.kids) :
    bodyPost Tryd.prog f (RPost N W s d r (patVal w.heap.size) w) .ret ⟨tmps, []⟩ w' := by
  refine bodyPost_ret (v := .agg #[.int .i64 p.kind, .string p.text, .int .i64 p.n, .string p.name, .slice ka p.kids.length cap]) (results_five hres ht F) rfl ?_
  unfold RPost
  rw [hr]
  refine ⟨K.step K5 (fun y hy => .inr (by omega)), _, rfl, ⟨S, fun b hb => ⟨(hS b hb).1, Nat.lt_of_lt_of_le (hS b hb).2.1 K5.size⟩, ka, cap, rfl, hz, ?_⟩, R.kept K5 (by omega) (by omega)⟩
  exact hp.kept K5 fun b hb => ⟨(hS b hb).2.1, (hS b hb).2.2⟩
theorem ret_pat {f : Func} (hres : f.results = #[.cell 2 24]) {tmps : Array Value} {M N W : Nat} {s : ByteArray} {d k : Nat} {r : Res PatT} {p : PatT} {w w2 : World} {ka : Option Addr} {cap : Nat} {S : Nat → Prop} {z0 z1 z2 z3 z4 : Value}
    (ht : tmps.getD 2 undef = .pointer (some ⟨M, 0, none⟩)) (F : Five M z0 z1 z2 z3 z4 w2) (R : Rdr N W s k d w2) (K : Kept (· = N) w w2) (hM : w.heap.size ≤ M) (hN : N < w.heap.size) (hW : W < w.heap.size)
    (hr : r = .ok (p, k)) (hz : p.text.size < 1000000000 ∧ p.name.size < 1000000000 ∧ p.kids.length < 1000000000) (hS : ∀ b, S b → w.heap.size ≤ b ∧ b < w2.heap.size ∧ b ≠ M) (hp : PatsAt w2 S ka p.kids) :
    bodyPost Tryd.prog f (RPost N W s d r (patVal w.heap.size) w) .ret ⟨tmps, []⟩ (set5 w2 M (.int .i64 p.kind) (.string p.text) (.int .i64 p.n) (.string p.name) (.slice ka p.kids.length cap)) :=
  ret_patG hres ht (F.set5 _ _ _ _ _) ((Kept.refl (· = M) w2).set5 (.inl rfl) _ _ _ _ _) R K hM hN hW hr hz hS hp
theorem alloc_same {w w1 : World} {M : Nat} (o : Obj) (h : Kept (· = M) w w1) (hs : w1.heap.size = w.heap.size) : Kept (· = M) (w.alloc o) (w1.alloc o) := by
  refine ⟨h.os, h.tape, h.output, by simp [hs], fun k hk hn => ?_⟩
  simp at hk
  by_cases e : k = w.heap.size
  · subst e
    rw [show (w.alloc o).heap[w.heap.size]? = some o from heap_alloc_new w o, ← hs]; exact heap_alloc_new w1 o
  · rw [Below.heap_alloc _ _ _ (show k < w.heap.size by omega), Below.heap_alloc _ _ _ (show k < w1.heap.size by omega)]
    exact h.block k (by omega) hn
theorem set5_size (w : World) (M : Nat) (c0 c1 c2 c3 c4 : Value) : (set5 w M c0 c1 c2 c3 c4).heap.size = w.heap.size := by simp [set5, World.setCell]
/-- The same where the last thing made is one block more (the walk writes it outermost). -/
theorem ret_patA {f : Func} (hres : f.results = #[.cell 2 24]) {tmps : Array Value} {M N W : Nat} {s : ByteArray} {d k : Nat} {r : Res PatT} {p : PatT} {w w2 : World} {o : Obj} {ka : Option Addr} {cap : Nat} {S : Nat → Prop} {z0 z1 z2 z3 z4 : Value}
    (ht : tmps.getD 2 undef = .pointer (some ⟨M, 0, none⟩)) (F : Five M z0 z1 z2 z3 z4 w2) (R : Rdr N W s k d w2) (K : Kept (· = N) w w2) (hM : w.heap.size ≤ M) (hN : N < w.heap.size) (hW : W < w.heap.size)
    (hr : r = .ok (p, k)) (hz : p.text.size < 1000000000 ∧ p.name.size < 1000000000 ∧ p.kids.length < 1000000000) (hS : ∀ b, S b → w.heap.size ≤ b ∧ b < w2.heap.size + 1 ∧ b ≠ M) (hp : PatsAt (w2.alloc o) S ka p.kids) :
    bodyPost Tryd.prog f (RPost N W s d r (patVal w.heap.size) w) .ret ⟨tmps, []⟩ ((set5 w2 M (.int .i64 p.kind) (.string p.text) (.int .i64 p.n) (.string p.name) (.slice ka p.kids.length cap)).alloc o) := by
  have k5 : Kept (· = M) w2 (set5 w2 M (.int .i64 p.kind) (.string p.text) (.int .i64 p.n) (.string p.name) (.slice ka p.kids.length cap)) := (Kept.refl (· = M) w2).set5 (.inl rfl) _ _ _ _ _
  refine ret_patG (w2 := w2.alloc o) (S := S) hres ht ((F.set5 _ _ _ _ _).kept ((Kept.refl Nix _).alloc o) (fun h => h)) (alloc_same o k5 (set5_size _ _ _ _ _ _ _)) (R.kept ((Kept.refl Nix w2).alloc o) (fun h => h) (fun h => h)) (K.alloc o) hM hN hW hr hz (fun b hb => ?_) hp
  have := hS b hb; simp; omega
theorem ret_err {α : Type} {f : Func} {a : Act} {N W : Nat} {s : ByteArray} {d : Nat} {r : Res α} {er : Er} {val : α → World → Value → Prop} {w w' : World} (ha : a.defers = []) (hr : r = .error er) (K : Kept (· = N) w w') :
    bodyPost Tryd.prog f (RPost N W s d r val w) (.panic [{ v := oopsV er, recovered := false }]) a w' := by
  refine ⟨ha, ?_⟩
  unfold RPost; rw [hr]; exact ⟨K, rfl⟩
set_option maxRecDepth 100000 in
set_option maxHeartbeats 1000000 in
theorem prim_lit (N W : Nat) (s : ByteArray) (i d : Nat) (w : World) (inner : Nat → Res PatT) (hr : Rdr N W s i d w) (hi : i ≤ s.size) (hs6 : s.size ≤ 65536) (hc : peek s (skip s i) = 39) :
    Calls Tryd.prog 53 #[.pointer (some ⟨N, 0, none⟩)] w (RPost N W s d (primaryP inner s i) (patVal w.heap.size) w) := by
  have e0 : Hid (primaryP inner s i = litP s (skip s i)) := by unfold Hid primaryP; rw [if_pos hc]
  have HR := Lib.hid hr
  have hN := hr.lt; have hW := hr.ltW; clear hr
  have hle := skip_le hi
  have hs : s.size ≤ 1000000000 := by omega
  go_enter Tryd.func53, Tryd.ntmps53
  go_wp2_with fail
  refine (next_any N W s i d _ (HR.out.kept ((Kept.refl Nix w).alloc _) (fun h => h) (fun h => h)) hi hs).mono ?_
  rintro e w1 ⟨rfl, R1, K1⟩
  have hb : (peek s (skip s i) == 39) = true := by simpa using hc
  have F1 : Hid (Five w.heap.size (.int .i64 0) (.string ⟨#[]⟩) (.int .i64 0) (.string ⟨#[]⟩) (.slice none 0 0) w1) := Five.kept (heap_alloc_new w _) K1 (by omega)
  have K1' : Hid (Kept (· = N) w w1) := ((Kept.refl _ w).alloc _).trans K1
  have RR1 := Lib.hid R1
  clear R1 K1 hc
  go_wp2_with fail
  refine (text_any N W s (skip s i) d _ RR1.out hle hs).mono ?_
  rintro e w2 ⟨K2, h⟩
  have F2 := Lib.hid (F1.out.kept K2 (by omega))
  cases ht : textP s (skip s i) with
  | error er =>
    rw [ht] at h
    obtain rfl := h
    have hr : Hid (primaryP inner s i = .error er) := by unfold Hid; rw [e0.out]; unfold litP; rw [ht]
    clear ht
    go_wp2_with fail
    exact ret_err rfl hr.out (K1'.out.trans K2)
  | ok x =>
    obtain ⟨⟨t, a⟩, k⟩ := x
    rw [ht] at h
    obtain ⟨_, rfl, rfl, R2⟩ := h
    obtain ⟨c0, c1, c2, c3, c4, cf⟩ := F2.out.cells
    have RR2 := Lib.hid R2; clear R2
    have hts : t.size < 1000000000 := by have := text_ok ht; omega
    have hr : Hid (primaryP inner s i = .ok (.mk 1 t 0 E0 [], k)) := by unfold Hid; rw [e0.out]; unfold litP; rw [ht]
    clear ht
    have f0 := cf 0; have f1 := cf 1; have f2 := cf 2; have f3 := cf 3; have f4 := cf 4; clear cf
    go_wp2_with fail
    exact ret_pat (p := .mk 1 t 0 E0 []) (S := Nix) rfl rfl F2.out RR2.out (K1'.out.trans K2) (Nat.le_refl _) hN hW hr.out ⟨hts, e0_lt, len0_lt⟩ (fun b hb => hb.elim) (by unfold PatsAt; trivial)
end Go.Proofs.YtdnglicgmlldlaaDoor
