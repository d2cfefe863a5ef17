/- The reader of patterns: how many nodes a text can have. The reader of patterns: the closure that catches what a reader throws. Read of the program. What Read of patterns answers. Expressions (trees of the same shape as patterns): what is wrong with one, and how the document counts (pure). -/
import Derived.Test.YtlnhcgihpclpaaaGreatDoorLm9
import Derived.Recover
import Derived.RegionTactic
import Derived.BigRegion
import Derived.Test.YtlnhcgihpclpaaaGreatDoorLm3
namespace Go.Proofs.YtlnhcgihpclpaaaGreatDoor
set_option linter.all false
open Go.RowKit

def InnerSz (s : ByteArray) (f : Nat → Res PatT) : Prop := ∀ i p k, i ≤ s.size → f i = .ok (p, k) → sizeT p + 2 * i + 1 ≤ 2 * k
theorem size_leaf (k : Int) (t : ByteArray) (n : Int) (nm : ByteArray) : sizeT (.mk k t n nm []) = 1 := by simp [sizeT, sizeL]
theorem size_one (k : Int) (t : ByteArray) (n : Int) (nm : ByteArray) (p : PatT) : sizeT (.mk k t n nm [p]) = 1 + sizeT p := by simp [sizeT, sizeL]
theorem primary_sz {s : ByteArray} {inner : Nat → Res PatT} (hf : InnerFwd s inner) (hz : InnerSz s inner) : InnerSz s (primaryP inner s) := by
  intro i p k hi h
  have hfw := primary_fwd hf hi h
  have h1 := skip_ge s i; have h2 := skip_le hi
  unfold primaryP at h
  split at h
  · unfold litP at h
    cases ht : textP s (skip s i) with
    | error e => rw [ht] at h; cases h
    | ok y =>
      obtain ⟨⟨t, a⟩, k1⟩ := y
      rw [ht] at h; simp only [Except.ok.injEq, Prod.mk.injEq] at h; obtain ⟨rfl, rfl⟩ := h
      rw [size_leaf]; omega
  · have nm : ∀ kd, nmP s (skip s i + 1) kd = .ok (p, k) → sizeT p = 1 := by
      intro kd h
      unfold nmP at h
      cases ht : nameP s (skip s i + 1) with
      | error e => rw [ht] at h; cases h
      | ok y =>
        obtain ⟨t, k1⟩ := y
        rw [ht] at h; simp only [Except.ok.injEq, Prod.mk.injEq] at h; obtain ⟨rfl, rfl⟩ := h
        exact size_leaf _ _ _ _
    split at h
    · have := nm _ h; omega
    · split at h
      · have := nm _ h; omega
      · unfold wdP at h
        cases ht : wordP s (skip s i) with
        | error e => rw [ht] at h; cases h
        | ok y =>
          obtain ⟨⟨x, a⟩, k1⟩ := y
          rw [ht] at h; dsimp only at h
          have a1 := word_ok h2 ht
          unfold kindP at h
          split at h
          · cases h
          · split at h
            · unfold argTextP at h
              cases hn : needP 40 s k1 with
              | error e => rw [hn] at h; cases h
              | ok k2 =>
                rw [hn] at h; dsimp only at h
                cases hx : textP s k2 with
                | error e => rw [hx] at h; cases h
                | ok y =>
                  obtain ⟨⟨t, b⟩, k3⟩ := y
                  rw [hx] at h; dsimp only at h
                  split at h
                  · cases h
                  · cases hm : needP 41 s k3 with
                    | error e => rw [hm] at h; cases h
                    | ok k4 =>
                      rw [hm] at h; simp only [Except.ok.injEq, Prod.mk.injEq] at h; obtain ⟨rfl, rfl⟩ := h
                      rw [size_leaf]; omega
            · split at h
              · unfold argNumP at h
                cases hn : needP 40 s k1 with
                | error e => rw [hn] at h; cases h
                | ok k2 =>
                  rw [hn] at h; dsimp only at h
                  cases hx : numP s k2 with
                  | error e => rw [hx] at h; cases h
                  | ok y =>
                    obtain ⟨t, k3⟩ := y
                    rw [hx] at h; dsimp only at h
                    cases hm : needP 41 s k3 with
                    | error e => rw [hm] at h; cases h
                    | ok k4 =>
                      rw [hm] at h; simp only [Except.ok.injEq, Prod.mk.injEq] at h; obtain ⟨rfl, rfl⟩ := h
                      rw [size_leaf]; omega
              · split at h
                · unfold argPatP at h
                  cases hn : needP 40 s k1 with
                  | error e => rw [hn] at h; cases h
                  | ok k2 =>
                    rw [hn] at h; dsimp only at h
                    have a2 := need_ok hn
                    cases hx : inner k2 with
                    | error e => rw [hx] at h; cases h
                    | ok y =>
                      obtain ⟨t, k3⟩ := y
                      rw [hx] at h; dsimp only at h
                      cases hm : needP 41 s k3 with
                      | error e => rw [hm] at h; cases h
                      | ok k4 =>
                        rw [hm] at h; simp only [Except.ok.injEq, Prod.mk.injEq] at h; obtain ⟨rfl, rfl⟩ := h
                        have := hz _ _ _ a2.2.1 hx
                        have := need_ok hm
                        rw [size_one]; omega
                · simp only [Except.ok.injEq, Prod.mk.injEq] at h; obtain ⟨rfl, rfl⟩ := h
                  rw [size_leaf]; omega
theorem head_sz {s : ByteArray} {inner : Nat → Res PatT} (hf : InnerFwd s inner) (hz : InnerSz s inner) : InnerSz s (headP inner s) := by
  intro i p k hi h
  have a0 := isP_le (c := 40) hi
  unfold headP at h
  split at h
  · cases h1 : inner (isP 40 s i).2 with
    | error e => rw [h1] at h; cases h
    | ok y =>
      obtain ⟨q, k1⟩ := y
      rw [h1] at h; dsimp only at h
      cases h3 : needP 41 s k1 with
      | error e => rw [h3] at h; cases h
      | ok k3 =>
        rw [h3] at h; simp only [Except.ok.injEq, Prod.mk.injEq] at h; obtain ⟨rfl, rfl⟩ := h
        have := hz _ _ _ a0.1 h1; have := need_ok h3; omega
  · have := primary_sz hf hz _ _ _ a0.1 h; omega
theorem gifts_sz {s : ByteArray} : ∀ (f : Nat) (p : PatT) (k : Nat) {q : PatT} {k' i : Nat}, k ≤ s.size → giftsP s f p k = .ok (q, k') → sizeT p + 2 * i + 1 ≤ 2 * k → sizeT q + 2 * i + 1 ≤ 2 * k'
  | 0, p, k, q, k', i, hk, h, hs => by simp only [giftsP, Except.ok.injEq, Prod.mk.injEq] at h; obtain ⟨rfl, rfl⟩ := h; exact hs
  | f + 1, p, k, q, k', i, hk, h, hs => by
    have h1 := isP_le (c := 46) hk
    rw [giftsP] at h
    split at h
    · cases hn : nameP s (isP 46 s k).2 with
      | error e => rw [hn] at h; cases h
      | ok y =>
        obtain ⟨nm, k1⟩ := y
        rw [hn] at h
        have h2 := name_ok h1.1 hn
        exact gifts_sz f _ k1 h2.2 h (by rw [size_one]; omega)
    · have h3 := isP_le (c := 36) h1.1
      split at h
      · cases hn : nameP s (isP 36 s (isP 46 s k).2).2 with
        | error e => rw [hn] at h; cases h
        | ok y =>
          obtain ⟨nm, k1⟩ := y
          rw [hn] at h
          have h2 := name_ok h3.1 hn
          exact gifts_sz f _ k1 h2.2 h (by rw [size_one]; omega)
      · simp only [Except.ok.injEq, Prod.mk.injEq] at h; obtain ⟨rfl, rfl⟩ := h; omega
theorem item_sz {s : ByteArray} {inner : Nat → Res PatT} (hf : InnerFwd s inner) (hz : InnerSz s inner) : InnerSz s (itemP inner s) := by
  intro i p k hi h
  unfold itemP at h
  cases hh : headP inner s i with
  | error e => rw [hh] at h; cases h
  | ok y =>
    obtain ⟨q, k1⟩ := y
    rw [hh] at h
    have h1 := head_fwd hf hi hh
    exact gifts_sz _ _ _ h1.2 h (head_sz hf hz _ _ _ hi hh)
theorem sizeL_append : ∀ (a b : List PatT), sizeL (a ++ b) = sizeL a + sizeL b
  | [], b => by simp [sizeL]
  | p :: ps, b => by simp only [List.cons_append, sizeL, sizeL_append ps b]; omega
theorem oneOr_sz (kd : Int) (l : List PatT) (n : Nat) (h0 : 0 < l.length) (h : sizeL l + l.length ≤ n) : sizeT (oneOr kd l) + 1 ≤ n := by
  match l, h0 with
  | [p], _ => simp only [oneOr, sizeL, List.length_cons, List.length_nil] at h ⊢; omega
  | p :: q :: r, _ => simp only [oneOr, sizeT, List.length_cons] at h ⊢; omega
theorem catGo_sz {s : ByteArray} {inner : Nat → Res PatT} (hf : InnerFwd s inner) (hz : InnerSz s inner) : ∀ (f : Nat) (l : List PatT) (k : Nat) {q : PatT} {k' i : Nat}, k ≤ s.size → 0 < l.length → catGo inner s f l k = .ok (q, k') → sizeL l + l.length + 2 * i ≤ 2 * k → sizeT q + 2 * i + 1 ≤ 2 * k'
  | 0, l, k, q, k', i, hk, h0, h, hs => by
    simp only [catGo, Except.ok.injEq, Prod.mk.injEq] at h; obtain ⟨rfl, rfl⟩ := h
    have := oneOr_sz 18 l (2 * k - 2 * i) h0 (by omega); omega
  | f + 1, l, k, q, k', i, hk, h0, h, hs => by
    have h1 := skip_ge s k; have h2 := skip_le hk
    rw [catGo] at h
    split at h
    · cases hn : itemP inner s (skip s k) with
      | error e => rw [hn] at h; cases h
      | ok y =>
        obtain ⟨p, k1⟩ := y
        rw [hn] at h
        have h3 := item_fwd hf _ _ _ h2 hn
        have h4 := item_sz hf hz _ _ _ h2 hn
        exact catGo_sz hf hz f _ k1 h3.2 (by simp) h (by rw [sizeL_append, List.length_append]; simp only [sizeL, List.length_cons, List.length_nil]; omega)
    · simp only [Except.ok.injEq, Prod.mk.injEq] at h; obtain ⟨rfl, rfl⟩ := h
      have := oneOr_sz 18 l (2 * k - 2 * i) h0 (by omega); omega
theorem cat_sz {s : ByteArray} {inner : Nat → Res PatT} (hf : InnerFwd s inner) (hz : InnerSz s inner) : InnerSz s (catP inner s) := by
  intro i p k hi h
  unfold catP at h
  cases hh : itemP inner s i with
  | error e => rw [hh] at h; cases h
  | ok y =>
    obtain ⟨q, k1⟩ := y
    rw [hh] at h
    have h1 := item_fwd hf _ _ _ hi hh
    have h2 := item_sz hf hz _ _ _ hi hh
    exact catGo_sz hf hz _ _ _ h1.2 (by simp) h (by simp only [sizeL, List.length_cons, List.length_nil]; omega)
theorem altGo_sz {s : ByteArray} {inner : Nat → Res PatT} (hf : InnerFwd s inner) (hz : InnerSz s inner) : ∀ (f : Nat) (l : List PatT) (k : Nat) {q : PatT} {k' i : Nat}, k ≤ s.size → 0 < l.length → altGo inner s f l k = .ok (q, k') → sizeL l + l.length + 2 * i ≤ 2 * k → sizeT q + 2 * i + 1 ≤ 2 * k'
  | 0, l, k, q, k', i, hk, h0, h, hs => by
    simp only [altGo, Except.ok.injEq, Prod.mk.injEq] at h; obtain ⟨rfl, rfl⟩ := h
    have := oneOr_sz 19 l (2 * k - 2 * i) h0 (by omega); omega
  | f + 1, l, k, q, k', i, hk, h0, h, hs => by
    have h1 := isP_le (c := 124) hk
    rw [altGo] at h
    split at h
    · cases hn : catP inner s (isP 124 s k).2 with
      | error e => rw [hn] at h; cases h
      | ok y =>
        obtain ⟨p, k1⟩ := y
        rw [hn] at h
        have h3 := cat_fwd hf _ _ _ h1.1 hn
        have h4 := cat_sz hf hz _ _ _ h1.1 hn
        exact altGo_sz hf hz f _ k1 h3.2 (by simp) h (by rw [sizeL_append, List.length_append]; simp only [sizeL, List.length_cons, List.length_nil]; omega)
    · simp only [Except.ok.injEq, Prod.mk.injEq] at h; obtain ⟨rfl, rfl⟩ := h
      have := oneOr_sz 19 l (2 * k - 2 * i) h0 (by omega); omega
theorem alt_sz {s : ByteArray} {inner : Nat → Res PatT} (hf : InnerFwd s inner) (hz : InnerSz s inner) : InnerSz s (altP inner s) := by
  intro i p k hi h
  unfold altP at h
  cases hh : catP inner s i with
  | error e => rw [hh] at h; cases h
  | ok y =>
    obtain ⟨q, k1⟩ := y
    rw [hh] at h
    have h1 := cat_fwd hf _ _ _ hi hh
    have h2 := cat_sz hf hz _ _ _ hi hh
    exact altGo_sz hf hz _ _ _ h1.2 (by simp) h (by simp only [sizeL, List.length_cons, List.length_nil]; omega)
theorem inner_sz (s : ByteArray) : ∀ m, InnerSz s (innerP s m)
  | 0 => fun i p k _ h => by simp [innerP] at h
  | m + 1 => fun i p k hi h => alt_sz (inner_fwd s m) (inner_sz s m) i p k hi h
theorem read_sz {s : ByteArray} {p : PatT} {k : Nat} (hs : s.size ≤ 65536) (h : altP (innerP s 200) s 0 = .ok (p, k)) : sizeT p ≤ 200000 ∧ k ≤ s.size := by
  have h1 := alt_sz (inner_fwd s 200) (inner_sz s 200) 0 p k (Nat.zero_le _) h
  have h2 := alt_fwd (inner_fwd s 200) 0 p k (Nat.zero_le _) h
  omega
/-- What Read makes of a text. -/
def readP (s : ByteArray) : Except Er PatT :=
  if 65536 < s.size then .error (4, 0) else
  match altP (innerP s 200) s 0 with
  | .error e => .error e
  | .ok (p, k) => if 0 ≤ peek s (skip s k) then .error (2, skip s k) else if fits p then .ok p else .error (4, 0)
end Go.Proofs.YtlnhcgihpclpaaaGreatDoor

namespace Go.Proofs.YtlnhcgihpclpaaaGreatDoor
set_option linter.all false
open Go.RowKit

def Two (M : Nat) (c0 c1 : Value) (w : World) : Prop := w.heap[M]? = some (.cells #[c0, c1] 30 (0, 0))
theorem Two.lt {M : Nat} {c0 c1 : Value} {w : World} (h : Two M c0 c1 w) : M < w.heap.size := (Array.getElem?_eq_some_iff.1 h).1
theorem Two.kept {M : Nat} {c0 c1 : Value} {w w' : World} {X : Nat → Prop} (h : Two M c0 c1 w) (hk : Kept X w w') (hx : ¬ X M) : Two M c0 c1 w' := by
  unfold Two; rw [hk.block M h.lt hx]; exact h
theorem Two.cells {M : Nat} {c0 c1 : Value} {w : World} (h : Two M c0 c1 w) : w.cell? ⟨M, 0, none⟩ = some c0 ∧ w.cell? ⟨M, 1, none⟩ = some c1 ∧ ∀ o, w.frozen? ⟨M, o, none⟩ = false := by
  unfold Two at h
  refine ⟨?_, ?_, fun o => by simp [World.frozen?, h]⟩ <;> (rw [cell_of_row w M _ _ _ _ h]; rfl)
def set2 (w : World) (M : Nat) (c0 c1 : Value) : World := (w.setCell ⟨M, 0, none⟩ c0).setCell ⟨M, 1, none⟩ c1
theorem Two.set2 {M : Nat} {z0 z1 : Value} {w : World} (h : Two M z0 z1 w) (c0 c1 : Value) : Two M c0 c1 (set2 w M c0 c1) := by
  unfold Two at h ⊢
  unfold Go.Proofs.YtlnhcgihpclpaaaGreatDoor.set2
  rw [row_setCell (row_setCell h _) _]; rfl
theorem Kept.set2 {X : Nat → Prop} {a w : World} (h : Kept X a w) {M : Nat} (hM : X M ∨ a.heap.size ≤ M) (c0 c1 : Value) : Kept X a (set2 w M c0 c1) :=
  (h.setCell (p := ⟨M, 0, none⟩) hM _).setCell (p := ⟨M, 1, none⟩) hM _

def CatchPost (A1 A2 : Nat) (er : Er) (w : World) (e : Ending) (u : FrameMode) (w' : World) : Prop :=
  e = .returned (.tuple #[]) ∧ u = .panicking [{ v := oopsV er, recovered := true }] ∧ Zero5 A1 w' ∧ Two A2 (.int .i64 er.1) (.int .i64 er.2) w' ∧ Kept (fun k => k = A1 ∨ k = A2) w w'
set_option maxRecDepth 100000 in
set_option maxHeartbeats 1000000 in
theorem catch_oops (A1 A2 : Nat) (hne : A1 ≠ A2) (er : Er) (w : World) (z0 z1 z2 z3 z4 y0 y1 : Value) (hF : Five A1 z0 z1 z2 z3 z4 w) (hT : Two A2 y0 y1 w) :
    CallsD Tryz.prog 93 #[.pointer (some ⟨A1, 0, none⟩), .pointer (some ⟨A2, 0, none⟩)] (.panicking [{ v := oopsV er, recovered := false }]) w (CatchPost A1 A2 er w) := by
  have hta : ∀ (x : Value) (w : World), (Instr.typeAssert (.iface 145 x) 20 145 true).run Tryz.prog w = .ok (.tuple #[x, .bool true]) w := fun _ _ => by kernel_rfl
  refine callsD_of_wpS Tryz.func93 rfl fun c₀ cs hu => ?_
  obtain ⟨c0, c1, c2, c3, c4, cf⟩ := hF.cells
  obtain ⟨d0, d1, df⟩ := hT.cells
  have f0 := cf 0; have f1 := cf 1; have f2 := cf 2; have f3 := cf 3; have f4 := cf 4; clear cf
  have g0 := df 0; have g1 := df 1; clear df
  have HF := Lib.hid hF; have HT := Lib.hid hT
  have hl1 := hF.lt; have hl2 := hT.lt
  obtain ⟨e1, e2⟩ := er
  have HU := Lib.hid hu
  apply wpS_seq
  apply wpS_region
  simp [wpOpsS, go_sem, recoverD, hu, Tryz.ntmps93, Exit.thenS]
  clear hF hT hu
  unfold oopsV
  dsimp only
  show Code.wpS _ _ _ ⟨#[.pointer (some ⟨A1, 0, none⟩), .pointer (some ⟨A2, 0, none⟩), undef, undef, undef, .iface 145 (.agg #[.int .i64 e1, .int .i64 e2]), undef, undef, undef, undef, undef, undef, undef, undef], []⟩ _ _
  refine wpS_of_wp ?_
  go_wp2_with fail
  go_region
  all_goals go_wp2_with fail
  have F5 : Zero5 A1 (set5 w A1 (.int .i64 0) (.string ⟨#[]⟩) (.int .i64 0) (.string ⟨#[]⟩) (.slice none 0 0)) := HF.out.set5 _ _ _ _ _
  have T5 : Two A2 y0 y1 (set5 w A1 (.int .i64 0) (.string ⟨#[]⟩) (.int .i64 0) (.string ⟨#[]⟩) (.slice none 0 0)) := HT.out.kept ((Kept.refl (· = A1) w).set5 (.inl rfl) _ _ _ _ _) (fun h => hne h.symm)
  have K : Kept (fun k => k = A1 ∨ k = A2) w (set2 (set5 w A1 (.int .i64 0) (.string ⟨#[]⟩) (.int .i64 0) (.string ⟨#[]⟩) (.slice none 0 0)) A2 (.int .i64 e1) (.int .i64 e2)) :=
    ((Kept.refl _ w).set5 (.inl (.inl rfl)) _ _ _ _ _).set2 (.inl (.inr rfl)) _ _
  refine ⟨rfl, _, rfl, .tuple #[], by simp [results, Tryz.results93, go_sem], rfl, rfl, ?_, ?_, (K.alloc _).drew⟩
  · exact Five.kept (Five.kept F5 ((Kept.refl (· = A2) _).set2 (.inl rfl) (.int .i64 e1) (.int .i64 e2)) hne) ((Kept.refl Nix _).alloc _).drew (fun h => h)
  · exact (T5.set2 (.int .i64 e1) (.int .i64 e2)).kept ((Kept.refl Nix _).alloc _).drew (fun h => h)
set_option maxRecDepth 100000 in
set_option maxHeartbeats 1000000 in
theorem catch_idle (a b : Value) (w : World) :
    CallsD Tryz.prog 93 #[a, b] .returning w fun e u' w' => e = .returned (.tuple #[]) ∧ u' = .returning ∧ w = w' := by
  refine callsD_of_wpS Tryz.func93 rfl fun c₀ cs hu => ?_
  have HU := Lib.hid hu
  apply wpS_seq
  apply wpS_region
  simp [wpOpsS, go_sem, recoverD, hu, Tryz.ntmps93, Exit.thenS]
  clear hu
  show Code.wpS _ _ _ ⟨#[a, b, undef, undef, undef, .nilIface, undef, undef, undef, undef, undef, undef, undef, undef], []⟩ _ _
  refine wpS_of_wp ?_
  go_wp2_with fail
  refine ⟨rfl, .returning, ?_, .tuple #[], by simp [results, Tryz.results93, go_sem], rfl, rfl, rfl⟩
  have h := HU.out
  cases c₀; simp_all
end Go.Proofs.YtlnhcgihpclpaaaGreatDoor

namespace Go.Proofs.YtlnhcgihpclpaaaGreatDoor
set_option linter.all false
open Go.RowKit

def zeroV : Value := .agg #[.int .i64 0, .string ⟨#[]⟩, .int .i64 0, .string ⟨#[]⟩, .slice none 0 0]
def faultV (er : Er) : Value := .agg #[.int .i64 er.1, .int .i64 er.2]
def ReadPost (s : ByteArray) (w : World) (e : Ending) (w' : World) : Prop :=
  Kept Nix w w' ∧ match readP s with
    | .ok p => ∃ v, e = .returned (.tuple #[v, faultV (0, 0)]) ∧ patVal w.heap.size p w' v
    | .error er => e = .returned (.tuple #[zeroV, faultV er])
theorem results_read {tmps : Array Value} {A1 A2 : Nat} (h2 : tmps.getD 2 undef = .pointer (some ⟨A1, 0, none⟩)) (h3 : tmps.getD 3 undef = .pointer (some ⟨A2, 0, none⟩)) {c0 c1 c2 c3 c4 d0 d1 : Value} {w : World} (h : Five A1 c0 c1 c2 c3 c4 w) (k : Two A2 d0 d1 w) :
    (results Tryz.f86 tmps).run Tryz.prog w = .ok (.tuple #[.agg #[c0, c1, c2, c3, c4], .agg #[d0, d1]]) w := by
  obtain ⟨x0, x1, x2, x3, x4, _⟩ := h.cells
  obtain ⟨y0, y1, _⟩ := k.cells
  have ht2 : tmps[2]?.getD undef = .pointer (some ⟨A1, 0, none⟩) := by rw [← h2, Array.getD_eq_getD_getElem?]
  have ht3 : tmps[3]?.getD undef = .pointer (some ⟨A2, 0, none⟩) := by rw [← h3, Array.getD_eq_getD_getElem?]
  simp [results, Tryz.results86, go_sem, ht2, ht3, x0, x1, x2, x3, x4, y0, y1]
theorem read_err {s : ByteArray} {er : Er} {w w' : World} (hr : readP s = .error er) (K : Kept Nix w w') : ReadPost s w (.returned (.tuple #[zeroV, faultV er])) w' := by
  unfold ReadPost; rw [hr]; exact ⟨K, rfl⟩
/-- A throw goes through the door, and is caught. -/
theorem door_panic {s : ByteArray} {w w1 : World} {tmps : Array Value} {A1 A2 : Nat} {er : Er} {z0 z1 z2 z3 z4 y0 y1 : Value} (h2 : tmps.getD 2 undef = .pointer (some ⟨A1, 0, none⟩)) (h3 : tmps.getD 3 undef = .pointer (some ⟨A2, 0, none⟩))
    (hne : A1 ≠ A2) (hF : Five A1 z0 z1 z2 z3 z4 w1) (hT : Two A2 y0 y1 w1) (hA : w.heap.size ≤ A1 ∧ w.heap.size ≤ A2) (hr : readP s = .error er) (K : Kept Nix w w1) :
    bodyPostD Tryz.prog Tryz.f86 (ReadPost s w) (.panic [{ v := oopsV er, recovered := false }]) ⟨tmps, [{ target := .fn (.func 93) #[.pointer (some ⟨A1, 0, none⟩), .pointer (some ⟨A2, 0, none⟩)], args := #[] }]⟩ w1 := by
  refine leaves_cons (f := 93) (args := #[.pointer (some ⟨A1, 0, none⟩), .pointer (some ⟨A2, 0, none⟩)]) (by simp) (by simp [go_sem]) ?_
  refine (catch_oops A1 A2 hne er w1 _ _ _ _ _ _ _ hF hT).mono ?_
  rintro e u' w2 ⟨rfl, rfl, F, T, k⟩
  show Leaves _ _ _ _ [] (settle (.panicking [{ v := oopsV er, recovered := true }])) w2
  exact ⟨_, results_read h2 h3 F T, read_err hr (K.step k (fun y hy => .inr (by omega)))⟩
/-- A return goes through the door. -/
theorem door_ret {R : Ending → World → Prop} {w1 : World} {tmps : Array Value} {A1 A2 : Nat} {c0 c1 c2 c3 c4 d0 d1 : Value} (h2 : tmps.getD 2 undef = .pointer (some ⟨A1, 0, none⟩)) (h3 : tmps.getD 3 undef = .pointer (some ⟨A2, 0, none⟩))
    (hF : Five A1 c0 c1 c2 c3 c4 w1) (hT : Two A2 d0 d1 w1) (hR : R (.returned (.tuple #[.agg #[c0, c1, c2, c3, c4], .agg #[d0, d1]])) w1) :
    bodyPostD Tryz.prog Tryz.f86 R .ret ⟨tmps, [{ target := .fn (.func 93) #[.pointer (some ⟨A1, 0, none⟩), .pointer (some ⟨A2, 0, none⟩)], args := #[] }]⟩ w1 := by
  refine leaves_cons (f := 93) (args := #[.pointer (some ⟨A1, 0, none⟩), .pointer (some ⟨A2, 0, none⟩)]) (by simp) (by simp [go_sem]) ?_
  refine (catch_idle _ _ w1).mono ?_
  rintro e u' w2 ⟨rfl, rfl, rfl⟩
  exact ⟨_, results_read h2 h3 hF hT, hR⟩

set_option maxRecDepth 100000 in
set_option maxHeartbeats 4000000 in
theorem read_any (s : ByteArray) (w : World) (hs : s.size ≤ maxLen) : Calls Tryz.prog 86 #[.string s] w (ReadPost s w) := by
  unfold maxLen at hs
  have hmf : ∀ (fn : Fn) (first cap : Array Value) (w : World), (Instr.makeFunc fn first cap).run Tryz.prog w = .ok (.func fn first cap) w := fun _ _ _ _ => rfl
  by_cases hl : 65536 < s.size
  · have hr : Hid (readP s = .error (4, 0)) := by unfold Hid readP; rw [if_pos hl]
    go_enter_defers Tryz.func86, Tryz.ntmps86
    go_wp2_with fail
    refine ⟨.tuple #[zeroV, faultV (4, 0)], by simp [results, Tryz.results86, go_sem, zeroV, faultV], read_err hr.out (by repeat (first | exact Kept.refl _ _ | refine Kept.alloc ?_ _))⟩
  · have hs6 : s.size ≤ 65536 := by omega
    obtain ⟨w4, hw4⟩ : ∃ w4, w4 = (((w.alloc (.cells #[.int .i64 0, .string ⟨#[]⟩, .int .i64 0, .string ⟨#[]⟩, .slice none 0 0] 47)).alloc (.cells #[.int .i64 0, .int .i64 0] 30)).alloc (.cells (wordsL.map Value.string).toArray 9)).alloc (.cells #[.string s, .int .i64 0, .slice (some ⟨w.heap.size + 1 + 1, 0, none⟩) 21 21, .int .i64 0] 148) := ⟨_, rfl⟩
    have R4 : Hid (Rdr (w.heap.size + 1 + 1 + 1) (w.heap.size + 1 + 1) s 0 0 w4) := by rw [hw4]; exact ⟨heap_new2 (by simp), by omega, WordsAt.kept (heap_new2 (by simp)) ((Kept.refl Nix _).alloc _) (fun h => h)⟩
    have F4 : Hid (Zero5 w.heap.size w4) := by rw [hw4]; exact Five.kept (heap_alloc_new w _) ((((Kept.refl Nix _).alloc _).alloc _).alloc _) (fun h => h)
    have T4 : Hid (Two (w.heap.size + 1) (.int .i64 0) (.int .i64 0) w4) := by rw [hw4]; exact Two.kept (heap_new2 (by simp)) (((Kept.refl Nix _).alloc _).alloc _) (fun h => h)
    have K4 : Hid (Kept Nix w w4) := by rw [hw4]; exact ((((Kept.refl Nix w).alloc _).alloc _).alloc _).alloc _
    have hz4 : w4.heap.size = w.heap.size + 4 := by rw [hw4]; simp
    have HZ4 := Lib.hid hz4; clear hz4
    go_enter_defers Tryz.func86, Tryz.ntmps86
    go_wp2_with fail
    refine (words_any _).mono ?_
    rintro e w' ⟨rfl, rfl⟩
    go_wp2_with fail
    rw [← hw4]; clear hw4
    refine (alt_all _ _ s hs6 0 w4 R4.out (Nat.zero_le _)).mono ?_
    rintro e w5 ⟨k_, h⟩
    have hz4 := HZ4.out
    have F5 := Lib.hid (Five.kept F4.out k_ (by omega)); have T5 := Lib.hid (T4.out.kept k_ (by omega))
    have K5 : Hid (Kept Nix w w5) := K4.out.step k_ (fun y hy => .inr (by omega))
    have hsz5 := k_.size
    clear k_ F4 T4 K4
    cases ha : altP (innerP s 200) s 0 with
    | error er =>
      rw [ha] at h
      obtain rfl := h
      have hr : Hid (readP s = .error er) := by unfold Hid readP; rw [if_neg hl, ha]
      clear ha hl
      go_wp2_with fail
      exact door_panic rfl rfl (by omega) F5.out T5.out (by omega) hr.out K5.out
    | ok y =>
      obtain ⟨p, k⟩ := y
      rw [ha] at h
      obtain ⟨_, rfl, ⟨S, hS, ⟨ka, cap, rfl, hz, hk⟩⟩, R5⟩ := h
      obtain ⟨hsp, hks⟩ := read_sz hs6 ha
      have K51 : Kept (· = w.heap.size) w5 (set5 w5 w.heap.size (.int .i64 p.kind) (.string p.text) (.int .i64 p.n) (.string p.name) (.slice ka p.kids.length cap)) := (Kept.refl (· = w.heap.size) w5).set5 (.inl rfl) _ _ _ _ _
      have R6 := Lib.hid (R5.kept K51 (by omega) (by omega))
      have F6 := Lib.hid (Five.set5 F5.out (.int .i64 p.kind) (.string p.text) (.int .i64 p.n) (.string p.name) (.slice ka p.kids.length cap))
      have T6 := Lib.hid (T5.out.kept K51 (by omega))
      have K6 : Hid (Kept Nix w (set5 w5 w.heap.size (.int .i64 p.kind) (.string p.text) (.int .i64 p.n) (.string p.name) (.slice ka p.kids.length cap))) := K5.out.step K51 (fun y hy => .inr (by omega))
      have HK6 := Lib.hid (hk.kept K51 (fun b hb => ⟨(hS b hb).2, by have := (hS b hb).1; omega⟩))
      have hz6 : (set5 w5 w.heap.size (.int .i64 p.kind) (.string p.text) (.int .i64 p.n) (.string p.name) (.slice ka p.kids.length cap)).heap.size = w5.heap.size := set5_size _ _ _ _ _ _ _
      have HZ6 := Lib.hid hz6
      have HS := Lib.hid hS; have HZ := Lib.hid hz
      obtain ⟨c0, c1, c2, c3, c4, cf⟩ := Five.cells F5.out
      have f0 := cf 0; have f1 := cf 1; have f2 := cf 2; have f3 := cf 3; have f4 := cf 4; clear cf
      have HA := Lib.hid ha
      obtain ⟨w6, hw6⟩ : ∃ w6, w6 = set5 w5 w.heap.size (.int .i64 p.kind) (.string p.text) (.int .i64 p.n) (.string p.name) (.slice ka p.kids.length cap) := ⟨_, rfl⟩
      rw [← hw6] at R6 F6 T6 K6 HK6 HZ6
      clear ha R5 hk hz hS hz6 K51 F5 T5 K5 R4
      go_wp2_with fail
      show Calls _ _ _ (set5 w5 w.heap.size (.int .i64 p.kind) (.string p.text) (.int .i64 p.n) (.string p.name) (.slice ka p.kids.length cap)) _
      rw [← hw6]; clear hw6 c0 c1 c2 c3 c4 f0 f1 f2 f3 f4
      refine (next_any _ _ s k 0 w6 R6.out hks (by omega)).mono ?_
      rintro e w7 ⟨rfl, R7, k_⟩
      have hz6 := HZ6.out
      have F7 := Lib.hid (Five.kept F6.out k_ (by omega)); have T7 := Lib.hid (T6.out.kept k_ (by omega))
      have K7 : Hid (Kept Nix w w7) := K6.out.step k_ (fun y hy => .inr (by omega))
      have HK7 := Lib.hid (HK6.out.kept k_ (fun b hb => ⟨by have := (HS.out b hb).2; omega, by have := (HS.out b hb).1; omega⟩))
      have hsz7 := k_.size
      have q1 := R7.c1
      clear k_ F6 T6 K6 HK6 R6
      by_cases hp : 0 ≤ peek s (skip s k)
      · have hb : decide (0 ≤ peek s (skip s k)) = true := decide_eq_true hp
        have hr : Hid (readP s = .error (2, skip s k)) := by unfold Hid readP; rw [if_neg hl, HA.out]; dsimp only; rw [if_pos hp]
        clear hp hl
        go_wp2_with fail
        refine (fail_any _ 2 (skip s k) w7).mono ?_
        rintro e w8 ⟨rfl, rfl⟩
        go_wp2_with fail
        exact door_panic rfl rfl (by omega) F7.out T7.out (by omega) hr.out K7.out
      · have hb : decide (0 ≤ peek s (skip s k)) = false := decide_eq_false hp
        have PV : Hid (PatV w7 (· < w7.heap.size) (.agg #[.int .i64 p.kind, .string p.text, .int .i64 p.n, .string p.name, .slice ka p.kids.length cap]) p) := ⟨ka, cap, rfl, HZ.out, PatsAt.same (fun _ _ => rfl) (fun b hb => by have := (HS.out b hb).2; omega) _ _ HK7.out⟩
        obtain ⟨c0, c1, c2, c3, c4, cf⟩ := Five.cells F7.out
        have HP := Lib.hid hp; have HL := Lib.hid hl
        clear R7 q1 hp hl
        go_wp2_with fail
        refine (size_any p _ w7 PV.out (by omega)).mono ?_
        rintro e w8 ⟨rfl, k_⟩
        have F8 := Lib.hid (Five.kept F7.out k_ (fun h => h)); have T8 := Lib.hid (T7.out.kept k_ (fun h => h))
        have K8 : Hid (Kept Nix w w8) := K7.out.trans k_
        have HK8 := Lib.hid (HK7.out.kept k_ (fun b hb => ⟨by have := (HS.out b hb).2; omega, fun h => h⟩))
        have hsz8 := k_.size
        obtain ⟨d0, d1, d2, d3, d4, df⟩ := Five.cells F8.out
        have f0 := df 0; have f1 := df 1; have f2 := df 2; have f3 := df 3; have f4 := df 4
        obtain ⟨t0, t1, tf⟩ := T8.out.cells
        have g0 := tf 0; have g1 := tf 1
        clear k_ F7 T7 K7 HK7 PV c0 c1 c2 c3 c4 cf df tf
        rw [sizeF_eq]
        have ne12 : w.heap.size ≠ w.heap.size + 1 := by omega
        by_cases hf : fits p
        · have hr : Hid (readP s = .ok p) := by unfold Hid readP; rw [if_neg HL.out, HA.out]; dsimp only; rw [if_neg (by have := HP.out; omega), if_pos hf]
          have K9 : Hid (Kept (fun y => y = w.heap.size ∨ y = w.heap.size + 1) w8 (set2 (set5 w8 w.heap.size (.int .i64 p.kind) (.string p.text) (.int .i64 p.n) (.string p.name) (.slice ka p.kids.length cap)) (w.heap.size + 1) (.int .i64 0) (.int .i64 0))) := ((Kept.refl _ w8).set5 (.inl (.inl rfl)) _ _ _ _ _).set2 (.inl (.inr rfl)) _ _
          have F9 : Hid (Five w.heap.size (.int .i64 p.kind) (.string p.text) (.int .i64 p.n) (.string p.name) (.slice ka p.kids.length cap) (set2 (set5 w8 w.heap.size (.int .i64 p.kind) (.string p.text) (.int .i64 p.n) (.string p.name) (.slice ka p.kids.length cap)) (w.heap.size + 1) (.int .i64 0) (.int .i64 0))) :=
            (F8.out.set5 _ _ _ _ _).kept ((Kept.refl (· = w.heap.size + 1) _).set2 (.inl rfl) _ _) ne12
          have T9 : Hid (Two (w.heap.size + 1) (.int .i64 0) (.int .i64 0) (set2 (set5 w8 w.heap.size (.int .i64 p.kind) (.string p.text) (.int .i64 p.n) (.string p.name) (.slice ka p.kids.length cap)) (w.heap.size + 1) (.int .i64 0) (.int .i64 0))) :=
            (T8.out.kept ((Kept.refl (· = w.heap.size) w8).set5 (.inl rfl) _ _ _ _ _) (fun h => ne12 h.symm)).set2 _ _
          rw [if_pos hf]
          clear hf
          go_wp2_with fail
          go_region
          all_goals go_wp2_with fail
          refine door_ret rfl rfl (F9.out.kept (Kept.refl Nix _).drew (fun h => h)) (T9.out.kept (Kept.refl Nix _).drew (fun h => h)) ?_
          unfold ReadPost
          rw [hr.out]
          have hk9 := (K9.out.drew)
          refine ⟨K8.out.step hk9 (fun y hy => .inr (by omega)), _, rfl, S, fun b hb => ?_, ka, cap, rfl, HZ.out, HK8.out.kept hk9 (fun b hb => ?_)⟩
          · have := HS.out b hb; exact ⟨by omega, Nat.lt_of_lt_of_le (show b < w8.heap.size by omega) hk9.size⟩
          · have := HS.out b hb; omega
        · have hr : Hid (readP s = .error (4, 0)) := by unfold Hid readP; rw [if_neg HL.out, HA.out]; dsimp only; rw [if_neg (by have := HP.out; omega), if_neg hf]
          have K9 : Hid (Kept (fun y => y = w.heap.size ∨ y = w.heap.size + 1) w8 (set2 (set5 w8 w.heap.size (.int .i64 0) (.string ⟨#[]⟩) (.int .i64 0) (.string ⟨#[]⟩) (.slice none 0 0)) (w.heap.size + 1) (.int .i64 4) (.int .i64 0))) := ((Kept.refl _ w8).set5 (.inl (.inl rfl)) _ _ _ _ _).set2 (.inl (.inr rfl)) _ _
          have F9 : Hid (Zero5 w.heap.size (set2 (set5 w8 w.heap.size (.int .i64 0) (.string ⟨#[]⟩) (.int .i64 0) (.string ⟨#[]⟩) (.slice none 0 0)) (w.heap.size + 1) (.int .i64 4) (.int .i64 0))) :=
            Five.kept (F8.out.set5 _ _ _ _ _) ((Kept.refl (· = w.heap.size + 1) _).set2 (.inl rfl) _ _) ne12
          have T9 : Hid (Two (w.heap.size + 1) (.int .i64 4) (.int .i64 0) (set2 (set5 w8 w.heap.size (.int .i64 0) (.string ⟨#[]⟩) (.int .i64 0) (.string ⟨#[]⟩) (.slice none 0 0)) (w.heap.size + 1) (.int .i64 4) (.int .i64 0))) :=
            (T8.out.kept ((Kept.refl (· = w.heap.size) w8).set5 (.inl rfl) _ _ _ _ _) (fun h => ne12 h.symm)).set2 _ _
          rw [if_neg hf]
          clear hf
          go_wp2_with fail
          exact door_ret rfl rfl F9.out T9.out (read_err hr.out (K8.out.step K9.out (fun y hy => .inr (by omega))))
end Go.Proofs.YtlnhcgihpclpaaaGreatDoor

namespace Go.Proofs.YtlnhcgihpclpaaaGreatDoor
set_option linter.all false
open Go.RowKit

/-- What Read answers: the pattern (an empty one at a fault), and the fault. -/
def readQ (s : ByteArray) : PatT × Er := match readP s with | .ok p => (p, (0, 0)) | .error er => (.mk 0 E0 0 E0 [], er)
def ReadV (s : ByteArray) (w : World) (e : Ending) (w' : World) : Prop := Kept Nix w w' ∧ ∃ v, e = .returned (.tuple #[v, faultV (readQ s).2]) ∧ patVal w.heap.size (readQ s).1 w' v
theorem read_v {s : ByteArray} {w w' : World} {e : Ending} (h : ReadPost s w e w') : ReadV s w e w' := by
  obtain ⟨k, h⟩ := h
  refine ⟨k, ?_⟩
  unfold readQ
  cases hr : readP s with
  | ok p => rw [hr] at h; exact h
  | error er =>
    rw [hr] at h
    exact ⟨zeroV, h, Nix, fun b hb => hb.elim, none, 0, rfl, ⟨by show E0.size < _; decide, by show E0.size < _; decide, by show 0 < _; decide⟩, by unfold PatsAt; trivial⟩
theorem readQ_sz (s : ByteArray) : sizeT (readQ s).1 ≤ 200000 := by
  unfold readQ readP
  by_cases hl : 65536 < s.size
  · rw [if_pos hl]; dsimp only; simp [sizeT, sizeL]
  · rw [if_neg hl]
    cases ha : altP (innerP s 200) s 0 with
    | error e => dsimp only; simp [sizeT, sizeL]
    | ok y =>
      obtain ⟨p, k⟩ := y
      have := (read_sz (by omega) ha).1
      dsimp only
      by_cases h1 : 0 ≤ peek s (skip s k)
      · rw [if_pos h1]; dsimp only; simp [sizeT, sizeL]
      · rw [if_neg h1]
        by_cases h2 : fits p
        · rw [if_pos h2]; exact this
        · rw [if_neg h2]; dsimp only; simp [sizeT, sizeL]
end Go.Proofs.YtlnhcgihpclpaaaGreatDoor

namespace Go.Proofs.YtlnhcgihpclpaaaGreatDoor
set_option linter.all false
open Go.RowKit

def exKids (k : Int) : Int := if k = 4 ∨ k = 5 ∨ k = 7 then 1 else if 8 ≤ k ∧ k ≤ 13 then 2 else 0
/-- What is wrong with a node alone. -/
def ownE (k : Int) (t : ByteArray) (n : Int) (nm : ByteArray) (len : Nat) : Int :=
  if k < 1 ∨ 13 < k then 1
  else if k = 1 ∧ 65536 < t.size then 4
  else if k = 2 ∧ n < 0 then 3
  else if (k = 3 ∨ k = 4 ∨ k = 6) ∧ namedF nm = false then 7
  else if (k = 6 ∧ 8 < len) ∨ (k ≠ 6 ∧ (len : Int) ≠ exKids k) then 5 else 0
mutual
def nodeE : PatT → Int
  | .mk k t n nm kids => if ownE k t n nm kids.length = 0 then nodesE kids else ownE k t n nm kids.length
def nodesE : List PatT → Int
  | [] => 0
  | p :: r => if nodeE p = 0 then nodesE r else nodeE p
end
theorem nodesE_drop (l : List PatT) (j : Nat) (h : j < l.length) : nodesE (l.drop j) = if nodeE l[j] = 0 then nodesE (l.drop (j + 1)) else nodeE l[j] := by
  rw [List.drop_eq_getElem_cons h, nodesE]
/-- What is wrong with an expression. -/
def exprE (p : PatT) : Int := if fits p then nodeE p else 4

mutual
/-- The document's count. -/
def countR : PatT → Nat → Nat × Nat
  | .mk _ _ _ _ kids, d => if 200 < d then (1, d) else countL kids d 1 d
def countL : List PatT → Nat → Nat → Nat → Nat × Nat
  | [], _, n, m => (n, m)
  | p :: r, d, n, m =>
    if 4096 < n + (countR p (d + 1)).1 ∨ 200 < max m (countR p (d + 1)).2 then (n + (countR p (d + 1)).1, max m (countR p (d + 1)).2)
    else countL r d (n + (countR p (d + 1)).1) (max m (countR p (d + 1)).2)
end
mutual
theorem count_le : ∀ (p : PatT) (d : Nat), (countR p d).1 ≤ sizeT p ∧ (countR p d).2 ≤ d + depthT p
  | .mk k t n nm kids, d => by
    have ih := countL_le kids d 1 d
    rw [countR, sizeT, depthT]
    by_cases h2 : 200 < d
    · rw [if_pos h2]; exact ⟨by dsimp only; omega, by dsimp only; omega⟩
    · rw [if_neg h2]; omega
theorem countL_le : ∀ (l : List PatT) (d n m : Nat), (countL l d n m).1 ≤ n + sizeL l ∧ (countL l d n m).2 ≤ max m (d + 1 + depthL l)
  | [], d, n, m => by rw [countL, sizeL, depthL]; exact ⟨by dsimp only; omega, by dsimp only; omega⟩
  | p :: r, d, n, m => by
    have h1 := count_le p (d + 1)
    have h2 := countL_le r d (n + (countR p (d + 1)).1) (max m (countR p (d + 1)).2)
    rw [countL, sizeL, depthL]
    split
    · exact ⟨by dsimp only; omega, by dsimp only; omega⟩
    · omega
end
end Go.Proofs.YtlnhcgihpclpaaaGreatDoor
