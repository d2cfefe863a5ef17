/- Read of the program. Plain: the size of a pattern by a queue is its size by a walk. The reference of chapter 4: Size, by a queue. The document's reader: alternatives at any depth; how its walk begins. The document's Read: what the program's Read answers. -/
import Derived.Test.YtdnglicgmlldlaaRm12
import Derived.Deep.LoopGhost
namespace Go.Proofs.Ytdnglicgmlldlaa
open Go.RowKit

def zeroV : Value := .agg #[.int .i64 0, .string ⟨#[]⟩, .int .i64 0, .string ⟨#[]⟩, .slice none 0 0]
def faultV (er : Er) : Value := .agg #[.int .i64 er.1, .int .i64 er.2]
def ReadPost (s : ByteArray) (w : World) (e : Ending) (w' : World) : Prop :=
  Kept Nix w w' ∧ match readP s with
    | .ok p => ∃ v, e = .returned (.tuple #[v, faultV (0, 0)]) ∧ patVal w.heap.size p w' v
    | .error er => e = .returned (.tuple #[zeroV, faultV er])
theorem results_read {tmps : Array Value} {A1 A2 : Nat} (h2 : tmps.getD 2 undef = .pointer (some ⟨A1, 0, none⟩)) (h3 : tmps.getD 3 undef = .pointer (some ⟨A2, 0, none⟩)) {c0 c1 c2 c3 c4 d0 d1 : Value} {w : World} (h : Five A1 c0 c1 c2 c3 c4 w) (k : Two A2 d0 d1 w) :
    (results Try.f5 tmps).run Try.prog w = .ok (.tuple #[.agg #[c0, c1, c2, c3, c4], .agg #[d0, d1]]) w := by
  obtain ⟨x0, x1, x2, x3, x4, _⟩ := h.cells
  obtain ⟨y0, y1, _⟩ := k.cells
  have ht2 : tmps[2]?.getD undef = .pointer (some ⟨A1, 0, none⟩) := by rw [← h2, Array.getD_eq_getD_getElem?]
  have ht3 : tmps[3]?.getD undef = .pointer (some ⟨A2, 0, none⟩) := by rw [← h3, Array.getD_eq_getD_getElem?]
  simp [results, Try.results5, go_sem, ht2, ht3, x0, x1, x2, x3, x4, y0, y1]
theorem read_err {s : ByteArray} {er : Er} {w w' : World} (hr : readP s = .error er) (K : Kept Nix w w') : ReadPost s w (.returned (.tuple #[zeroV, faultV er])) w' := by
  unfold ReadPost; rw [hr]; exact ⟨K, rfl⟩
/-- A throw goes through the door, and is caught. -/
theorem door_panic {s : ByteArray} {w w1 : World} {tmps : Array Value} {A1 A2 : Nat} {er : Er} {z0 z1 z2 z3 z4 y0 y1 : Value} (h2 : tmps.getD 2 undef = .pointer (some ⟨A1, 0, none⟩)) (h3 : tmps.getD 3 undef = .pointer (some ⟨A2, 0, none⟩))
    (hne : A1 ≠ A2) (hF : Five A1 z0 z1 z2 z3 z4 w1) (hT : Two A2 y0 y1 w1) (hA : w.heap.size ≤ A1 ∧ w.heap.size ≤ A2) (hr : readP s = .error er) (K : Kept Nix w w1) :
    bodyPostD Try.prog Try.f5 (ReadPost s w) (.panic [{ v := oopsV er, recovered := false }]) ⟨tmps, [{ target := .fn (.func 17) #[.pointer (some ⟨A1, 0, none⟩), .pointer (some ⟨A2, 0, none⟩)], args := #[] }]⟩ w1 := by
  refine leaves_cons (f := 17) (args := #[.pointer (some ⟨A1, 0, none⟩), .pointer (some ⟨A2, 0, none⟩)]) (by simp) (by simp [go_sem]) ?_
  refine (catch_oops A1 A2 hne er w1 _ _ _ _ _ _ _ hF hT).mono ?_
  rintro e u' w2 ⟨rfl, rfl, F, T, k⟩
  show Leaves _ _ _ _ [] (settle (.panicking [{ v := oopsV er, recovered := true }])) w2
  exact ⟨_, results_read h2 h3 F T, read_err hr (K.step k (fun y hy => .inr (by omega)))⟩
/-- A return goes through the door. -/
theorem door_ret {R : Ending → World → Prop} {w1 : World} {tmps : Array Value} {A1 A2 : Nat} {c0 c1 c2 c3 c4 d0 d1 : Value} (h2 : tmps.getD 2 undef = .pointer (some ⟨A1, 0, none⟩)) (h3 : tmps.getD 3 undef = .pointer (some ⟨A2, 0, none⟩))
    (hF : Five A1 c0 c1 c2 c3 c4 w1) (hT : Two A2 d0 d1 w1) (hR : R (.returned (.tuple #[.agg #[c0, c1, c2, c3, c4], .agg #[d0, d1]])) w1) :
    bodyPostD Try.prog Try.f5 R .ret ⟨tmps, [{ target := .fn (.func 17) #[.pointer (some ⟨A1, 0, none⟩), .pointer (some ⟨A2, 0, none⟩)], args := #[] }]⟩ w1 := by
  refine leaves_cons (f := 17) (args := #[.pointer (some ⟨A1, 0, none⟩), .pointer (some ⟨A2, 0, none⟩)]) (by simp) (by simp [go_sem]) ?_
  refine (catch_idle _ _ w1).mono ?_
  rintro e u' w2 ⟨rfl, rfl, rfl⟩
  exact ⟨_, results_read h2 h3 hF hT, hR⟩

set_option maxRecDepth 100000 in
set_option maxHeartbeats 4000000 in
theorem read_any (s : ByteArray) (w : World) (hs : s.size ≤ maxLen) : Calls Try.prog 5 #[.string s] w (ReadPost s w) := by
  unfold maxLen at hs
  have hmf : ∀ (fn : Fn) (first cap : Array Value) (w : World), (Instr.makeFunc fn first cap).run Try.prog w = .ok (.func fn first cap) w := fun _ _ _ _ => rfl
  by_cases hl : 65536 < s.size
  · have hr : Hid (readP s = .error (4, 0)) := by unfold Hid readP; rw [if_pos hl]
    go_enter_defers Try.func5, Try.ntmps5
    go_wp2_with fail
    refine ⟨.tuple #[zeroV, faultV (4, 0)], by simp [results, Try.results5, go_sem, zeroV, faultV], read_err hr.out (by repeat (first | exact Kept.refl _ _ | refine Kept.alloc ?_ _))⟩
  · have hs6 : s.size ≤ 65536 := by omega
    obtain ⟨w4, hw4⟩ : ∃ w4, w4 = (((w.alloc (.cells #[.int .i64 0, .string ⟨#[]⟩, .int .i64 0, .string ⟨#[]⟩, .slice none 0 0] 24)).alloc (.cells #[.int .i64 0, .int .i64 0] 27)).alloc (.cells (wordsL.map Value.string).toArray 9)).alloc (.cells #[.string s, .int .i64 0, .slice (some ⟨w.heap.size + 1 + 1, 0, none⟩) 21 21, .int .i64 0] 47) := ⟨_, rfl⟩
    have R4 : Hid (Rdr (w.heap.size + 1 + 1 + 1) (w.heap.size + 1 + 1) s 0 0 w4) := by rw [hw4]; exact ⟨heap_new2 (by simp), by omega, WordsAt.kept (heap_new2 (by simp)) ((Kept.refl Nix _).alloc _) (fun h => h)⟩
    have F4 : Hid (Zero5 w.heap.size w4) := by rw [hw4]; exact Five.kept (heap_alloc_new w _) ((((Kept.refl Nix _).alloc _).alloc _).alloc _) (fun h => h)
    have T4 : Hid (Two (w.heap.size + 1) (.int .i64 0) (.int .i64 0) w4) := by rw [hw4]; exact Two.kept (heap_new2 (by simp)) (((Kept.refl Nix _).alloc _).alloc _) (fun h => h)
    have K4 : Hid (Kept Nix w w4) := by rw [hw4]; exact ((((Kept.refl Nix w).alloc _).alloc _).alloc _).alloc _
    have hz4 : w4.heap.size = w.heap.size + 4 := by rw [hw4]; simp
    have HZ4 := Lib.hid hz4; clear hz4
    go_enter_defers Try.func5, Try.ntmps5
    go_wp2_with fail
    refine (words_any _).mono ?_
    rintro e w' ⟨rfl, rfl⟩
    go_wp2_with fail
    rw [← hw4]; clear hw4
    refine (alt_all _ _ s hs6 0 w4 R4.out (Nat.zero_le _)).mono ?_
    rintro e w5 ⟨k_, h⟩
    have hz4 := HZ4.out
    have F5 := Lib.hid (Five.kept F4.out k_ (by omega)); have T5 := Lib.hid (T4.out.kept k_ (by omega))
    have K5 : Hid (Kept Nix w w5) := K4.out.step k_ (fun y hy => .inr (by omega))
    have hsz5 := k_.size
    clear k_ F4 T4 K4
    cases ha : altP (innerP s 200) s 0 with
    | error er =>
      rw [ha] at h
      obtain rfl := h
      have hr : Hid (readP s = .error er) := by unfold Hid readP; rw [if_neg hl, ha]
      clear ha hl
      go_wp2_with fail
      exact door_panic rfl rfl (by omega) F5.out T5.out (by omega) hr.out K5.out
    | ok y =>
      obtain ⟨p, k⟩ := y
      rw [ha] at h
      obtain ⟨_, rfl, ⟨S, hS, ⟨ka, cap, rfl, hz, hk⟩⟩, R5⟩ := h
      obtain ⟨hsp, hks⟩ := read_sz hs6 ha
      have K51 : Kept (· = w.heap.size) w5 (set5 w5 w.heap.size (.int .i64 p.kind) (.string p.text) (.int .i64 p.n) (.string p.name) (.slice ka p.kids.length cap)) := (Kept.refl (· = w.heap.size) w5).set5 (.inl rfl) _ _ _ _ _
      have R6 := Lib.hid (R5.kept K51 (by omega) (by omega))
      have F6 := Lib.hid (Five.set5 F5.out (.int .i64 p.kind) (.string p.text) (.int .i64 p.n) (.string p.name) (.slice ka p.kids.length cap))
      have T6 := Lib.hid (T5.out.kept K51 (by omega))
      have K6 : Hid (Kept Nix w (set5 w5 w.heap.size (.int .i64 p.kind) (.string p.text) (.int .i64 p.n) (.string p.name) (.slice ka p.kids.length cap))) := K5.out.step K51 (fun y hy => .inr (by omega))
      have HK6 := Lib.hid (hk.kept K51 (fun b hb => ⟨(hS b hb).2, by have := (hS b hb).1; omega⟩))
      have hz6 : (set5 w5 w.heap.size (.int .i64 p.kind) (.string p.text) (.int .i64 p.n) (.string p.name) (.slice ka p.kids.length cap)).heap.size = w5.heap.size := set5_size _ _ _ _ _ _ _
      have HZ6 := Lib.hid hz6
      have HS := Lib.hid hS; have HZ := Lib.hid hz
      obtain ⟨c0, c1, c2, c3, c4, cf⟩ := Five.cells F5.out
      have f0 := cf 0; have f1 := cf 1; have f2 := cf 2; have f3 := cf 3; have f4 := cf 4; clear cf
      have HA := Lib.hid ha
      obtain ⟨w6, hw6⟩ : ∃ w6, w6 = set5 w5 w.heap.size (.int .i64 p.kind) (.string p.text) (.int .i64 p.n) (.string p.name) (.slice ka p.kids.length cap) := ⟨_, rfl⟩
      rw [← hw6] at R6 F6 T6 K6 HK6 HZ6
      clear ha R5 hk hz hS hz6 K51 F5 T5 K5 R4
      go_wp2_with fail
      show Calls _ _ _ (set5 w5 w.heap.size (.int .i64 p.kind) (.string p.text) (.int .i64 p.n) (.string p.name) (.slice ka p.kids.length cap)) _
      rw [← hw6]; clear hw6 c0 c1 c2 c3 c4 f0 f1 f2 f3 f4
      refine (next_any _ _ s k 0 w6 R6.out hks (by omega)).mono ?_
      rintro e w7 ⟨rfl, R7, k_⟩
      have hz6 := HZ6.out
      have F7 := Lib.hid (Five.kept F6.out k_ (by omega)); have T7 := Lib.hid (T6.out.kept k_ (by omega))
      have K7 : Hid (Kept Nix w w7) := K6.out.step k_ (fun y hy => .inr (by omega))
      have HK7 := Lib.hid (HK6.out.kept k_ (fun b hb => ⟨by have := (HS.out b hb).2; omega, by have := (HS.out b hb).1; omega⟩))
      have hsz7 := k_.size
      have q1 := R7.c1
      clear k_ F6 T6 K6 HK6 R6
      by_cases hp : 0 ≤ peek s (skip s k)
      · have hb : decide (0 ≤ peek s (skip s k)) = true := decide_eq_true hp
        have hr : Hid (readP s = .error (2, skip s k)) := by unfold Hid readP; rw [if_neg hl, HA.out]; dsimp only; rw [if_pos hp]
        clear hp hl
        go_wp2_with fail
        refine (fail_any _ 2 (skip s k) w7).mono ?_
        rintro e w8 ⟨rfl, rfl⟩
        go_wp2_with fail
        exact door_panic rfl rfl (by omega) F7.out T7.out (by omega) hr.out K7.out
      · have hb : decide (0 ≤ peek s (skip s k)) = false := decide_eq_false hp
        have PV : Hid (PatV w7 (· < w7.heap.size) (.agg #[.int .i64 p.kind, .string p.text, .int .i64 p.n, .string p.name, .slice ka p.kids.length cap]) p) := ⟨ka, cap, rfl, HZ.out, PatsAt.same (fun _ _ => rfl) (fun b hb => by have := (HS.out b hb).2; omega) _ _ HK7.out⟩
        obtain ⟨c0, c1, c2, c3, c4, cf⟩ := Five.cells F7.out
        have HP := Lib.hid hp; have HL := Lib.hid hl
        clear R7 q1 hp hl
        go_wp2_with fail
        refine (size_any p _ w7 PV.out (by omega)).mono ?_
        rintro e w8 ⟨rfl, k_⟩
        have F8 := Lib.hid (Five.kept F7.out k_ (fun h => h)); have T8 := Lib.hid (T7.out.kept k_ (fun h => h))
        have K8 : Hid (Kept Nix w w8) := K7.out.trans k_
        have HK8 := Lib.hid (HK7.out.kept k_ (fun b hb => ⟨by have := (HS.out b hb).2; omega, fun h => h⟩))
        have hsz8 := k_.size
        obtain ⟨d0, d1, d2, d3, d4, df⟩ := Five.cells F8.out
        have f0 := df 0; have f1 := df 1; have f2 := df 2; have f3 := df 3; have f4 := df 4
        obtain ⟨t0, t1, tf⟩ := T8.out.cells
        have g0 := tf 0; have g1 := tf 1
        clear k_ F7 T7 K7 HK7 PV c0 c1 c2 c3 c4 cf df tf
        rw [sizeF_eq]
        have ne12 : w.heap.size ≠ w.heap.size + 1 := by omega
        by_cases hf : fits p
        · have hr : Hid (readP s = .ok p) := by unfold Hid readP; rw [if_neg HL.out, HA.out]; dsimp only; rw [if_neg (by have := HP.out; omega), if_pos hf]
          have K9 : Hid (Kept (fun y => y = w.heap.size ∨ y = w.heap.size + 1) w8 (set2 (set5 w8 w.heap.size (.int .i64 p.kind) (.string p.text) (.int .i64 p.n) (.string p.name) (.slice ka p.kids.length cap)) (w.heap.size + 1) (.int .i64 0) (.int .i64 0))) := ((Kept.refl _ w8).set5 (.inl (.inl rfl)) _ _ _ _ _).set2 (.inl (.inr rfl)) _ _
          have F9 : Hid (Five w.heap.size (.int .i64 p.kind) (.string p.text) (.int .i64 p.n) (.string p.name) (.slice ka p.kids.length cap) (set2 (set5 w8 w.heap.size (.int .i64 p.kind) (.string p.text) (.int .i64 p.n) (.string p.name) (.slice ka p.kids.length cap)) (w.heap.size + 1) (.int .i64 0) (.int .i64 0))) :=
            (F8.out.set5 _ _ _ _ _).kept ((Kept.refl (· = w.heap.size + 1) _).set2 (.inl rfl) _ _) ne12
          have T9 : Hid (Two (w.heap.size + 1) (.int .i64 0) (.int .i64 0) (set2 (set5 w8 w.heap.size (.int .i64 p.kind) (.string p.text) (.int .i64 p.n) (.string p.name) (.slice ka p.kids.length cap)) (w.heap.size + 1) (.int .i64 0) (.int .i64 0))) :=
            (T8.out.kept ((Kept.refl (· = w.heap.size) w8).set5 (.inl rfl) _ _ _ _ _) (fun h => ne12 h.symm)).set2 _ _
          rw [if_pos hf]
          clear hf
          go_wp2_with fail
          go_region
          all_goals go_wp2_with fail
          refine door_ret rfl rfl (F9.out.kept (Kept.refl Nix _).drew (fun h => h)) (T9.out.kept (Kept.refl Nix _).drew (fun h => h)) ?_
          unfold ReadPost
          rw [hr.out]
          have hk9 := (K9.out.drew)
          refine ⟨K8.out.step hk9 (fun y hy => .inr (by omega)), _, rfl, S, fun b hb => ?_, ka, cap, rfl, HZ.out, HK8.out.kept hk9 (fun b hb => ?_)⟩
          · have := HS.out b hb; exact ⟨by omega, Nat.lt_of_lt_of_le (show b < w8.heap.size by omega) hk9.size⟩
          · have := HS.out b hb; omega
        · have hr : Hid (readP s = .error (4, 0)) := by unfold Hid readP; rw [if_neg HL.out, HA.out]; dsimp only; rw [if_neg (by have := HP.out; omega), if_neg hf]
          have K9 : Hid (Kept (fun y => y = w.heap.size ∨ y = w.heap.size + 1) w8 (set2 (set5 w8 w.heap.size (.int .i64 0) (.string ⟨#[]⟩) (.int .i64 0) (.string ⟨#[]⟩) (.slice none 0 0)) (w.heap.size + 1) (.int .i64 4) (.int .i64 0))) := ((Kept.refl _ w8).set5 (.inl (.inl rfl)) _ _ _ _ _).set2 (.inl (.inr rfl)) _ _
          have F9 : Hid (Zero5 w.heap.size (set2 (set5 w8 w.heap.size (.int .i64 0) (.string ⟨#[]⟩) (.int .i64 0) (.string ⟨#[]⟩) (.slice none 0 0)) (w.heap.size + 1) (.int .i64 4) (.int .i64 0))) :=
            Five.kept (F8.out.set5 _ _ _ _ _) ((Kept.refl (· = w.heap.size + 1) _).set2 (.inl rfl) _ _) ne12
          have T9 : Hid (Two (w.heap.size + 1) (.int .i64 4) (.int .i64 0) (set2 (set5 w8 w.heap.size (.int .i64 0) (.string ⟨#[]⟩) (.int .i64 0) (.string ⟨#[]⟩) (.slice none 0 0)) (w.heap.size + 1) (.int .i64 4) (.int .i64 0))) :=
            (T8.out.kept ((Kept.refl (· = w.heap.size) w8).set5 (.inl rfl) _ _ _ _ _) (fun h => ne12 h.symm)).set2 _ _
          rw [if_neg hf]
          clear hf
          go_wp2_with fail
          exact door_ret rfl rfl F9.out T9.out (read_err hr.out (K8.out.step K9.out (fun y hy => .inr (by omega))))
end Go.Proofs.Ytdnglicgmlldlaa
namespace Go.Proofs.Ytdnglicgmlldlaa
open Go.RowKit

/-- Size by a queue of patterns with their depths; none: too large. -/
def qF : Nat → List (PatT × Nat) → Nat → Nat → Option (Nat × Nat)
  | _, [], n, d => some (n, d)
  | 0, _ :: _, _, _ => none
  | f + 1, x :: r, n, d => if 4096 < n + 1 ∨ 200 < max d x.2 then none else qF f (r ++ x.1.kids.map fun k => (k, x.2 + 1)) (n + 1) (max d x.2)
def qsize : List (PatT × Nat) → Nat
  | [] => 0
  | x :: r => sizeT x.1 + qsize r
theorem qsize_append : ∀ (a b : List (PatT × Nat)), qsize (a ++ b) = qsize a + qsize b
  | [], b => by simp [qsize]
  | x :: r, b => by simp only [List.cons_append, qsize, qsize_append r b]; omega
theorem qsize_kids (l : List PatT) (d : Nat) : qsize (l.map fun k => (k, d)) = sizeL l := by
  induction l with
  | nil => rfl
  | cons p ps ih => simp only [List.map_cons, qsize, sizeL, ih]
theorem length_le_qsize : ∀ q : List (PatT × Nat), q.length ≤ qsize q
  | [] => Nat.le_refl _
  | x :: r => by have := sizeT_pos x.1; have := length_le_qsize r; simp only [List.length_cons, qsize]; omega


def qdep : List (PatT × Nat) → Nat
  | [] => 0
  | x :: r => max (x.2 + depthT x.1 - 1) (qdep r)
theorem qdep_append : ∀ (a b : List (PatT × Nat)), qdep (a ++ b) = max (qdep a) (qdep b)
  | [], b => by simp [qdep]
  | x :: r, b => by simp only [List.cons_append, qdep, qdep_append r b]; omega
theorem qdep_kids : ∀ (l : List PatT) (d : Nat), qdep (l.map fun k => (k, d + 1)) = if l = [] then 0 else d + depthL l
  | [], d => rfl
  | [p], d => by
    have hp := depthT_pos p
    rw [if_neg (by simp)]; simp only [List.map_cons, List.map_nil, qdep, depthL]; omega
  | p :: q :: qs, d => by
    have hp := depthT_pos p
    have ih := qdep_kids (q :: qs) d
    rw [if_neg (by simp)] at ih ⊢
    have e : depthL (p :: q :: qs) = max (depthT p) (depthL (q :: qs)) := by rw [depthL]
    rw [List.map_cons, qdep, ih, e]; dsimp only; omega
theorem sizeT_eq (p : PatT) : sizeT p = 1 + sizeL p.kids := by cases p; rw [sizeT, PatT.kids_mk]
theorem depthT_eq (p : PatT) : depthT p = 1 + depthL p.kids := by cases p; rw [depthT, PatT.kids_mk]
theorem qF_eq : ∀ (f : Nat) (q : List (PatT × Nat)) (n d : Nat), qsize q ≤ f → n ≤ 4096 → d ≤ 200 →
    qF f q n d = if n + qsize q ≤ 4096 ∧ max d (qdep q) ≤ 200 then some (n + qsize q, max d (qdep q)) else none
  | f, [], n, d, _, hn, hd => by
    have e : qF f [] n d = some (n, d) := by cases f <;> rfl
    rw [e, if_pos (by simp only [qsize, qdep]; omega)]; simp [qsize, qdep]
  | 0, x :: r, n, d, hf, hn, hd => by have := sizeT_pos x.1; rw [qsize] at hf; omega
  | f + 1, x :: r, n, d, hf, hn, hd => by
    have hs := sizeT_pos x.1
    have hdp := depthT_pos x.1
    have es := sizeT_eq x.1
    have ed := depthT_eq x.1
    rw [qsize] at hf
    rw [qF]
    by_cases hb : 4096 < n + 1 ∨ 200 < max d x.2
    · rw [if_pos hb, if_neg (by rw [qsize, qdep]; omega)]
    · rw [if_neg hb, qF_eq f _ (n + 1) (max d x.2) (by rw [qsize_append, qsize_kids]; omega) (by omega) (by omega), qsize_append, qsize_kids, qdep_append, qdep_kids]
      have e1 : n + 1 + (qsize r + sizeL x.1.kids) = n + qsize (x :: r) := by rw [qsize]; omega
      have e2 : max (max d x.2) (max (qdep r) (if x.1.kids = [] then 0 else x.2 + depthL x.1.kids)) = max d (qdep (x :: r)) := by
        rw [qdep]
        by_cases hk : x.1.kids = []
        · rw [if_pos hk]; rw [hk, depthL] at ed; omega
        · rw [if_neg hk]; omega
      rw [e1, e2]
theorem qF_fits (p : PatT) : qF (sizeT p) [(p, 1)] 0 0 = if fits p then some (sizeT p, depthT p) else none := by
  have hd := depthT_pos p
  rw [qF_eq _ _ 0 0 (by simp [qsize]) (by omega) (by omega)]
  have e1 : 0 + qsize [(p, 1)] = sizeT p := by simp [qsize]
  have e2 : max 0 (qdep [(p, 1)]) = depthT p := by simp only [qdep]; omega
  rw [e1, e2]; rfl
mutual
theorem kids_fit : ∀ (p : PatT) (x : PatT), x ∈ allT p → x.kids.length < sizeT p
  | .mk k t n nm kids, x, hx => by
    rw [allT] at hx; rw [sizeT]
    rcases List.mem_cons.1 hx with rfl | hx
    · rw [PatT.kids_mk]; have := length_le_sizeL kids; omega
    · have := kidsL_fit kids x hx; omega
theorem kidsL_fit : ∀ (l : List PatT) (x : PatT), x ∈ allL l → x.kids.length < sizeL l
  | [], x, hx => by simp [allL] at hx
  | p :: ps, x, hx => by
    rw [allL] at hx; rw [sizeL]
    rcases List.mem_append.1 hx with h | h
    · have := kids_fit p x h; omega
    · have := kidsL_fit ps x h; omega
end
end Go.Proofs.Ytdnglicgmlldlaa
namespace Go.Proofs.Ytdnglicgmlldlaa
open Go.RowKit

theorem Try.infoOne : (Try.prog.info? 66).map (fun i => (i.zero, i.size, i.bytes)) = some (some (.agg #[.int .i64 0, .string ⟨#[]⟩, .int .i64 0, .string ⟨#[]⟩, .slice none 0 0, .int .i64 0]), 6, 80) := by kernel_rfl

/-- Six cells that are a pattern's node with its depth. -/
def Node6 (w : World) (S : Nat → Prop) (c : List Value) (x : PatT × Nat) : Prop := ∃ c5, c = c5 ++ [.int .i64 x.2] ∧ Node5 w S c5 x.1
def Row6 (w : World) (S : Nat → Prop) : List Value → List (PatT × Nat) → Prop
  | cs, [] => cs = []
  | cs, p :: ps => ∃ c rest, cs = c ++ rest ∧ Node6 w S c p ∧ Row6 w S rest ps
theorem Node6.length {w : World} {S : Nat → Prop} {c : List Value} {p : PatT × Nat} (h : Node6 w S c p) : c.length = 6 := by obtain ⟨_, rfl, h⟩ := h; rw [List.length_append, h.length]; rfl
theorem Row6.length {w : World} {S : Nat → Prop} : ∀ {l : List (PatT × Nat)} {cs : List Value}, Row6 w S cs l → cs.length = l.length * 6
  | [], cs, h => by rw [Row6] at h; subst h; rfl
  | p :: ps, cs, h => by
    rw [Row6] at h; obtain ⟨c, r, rfl, h1, h2⟩ := h
    rw [List.length_append, h1.length, h2.length, List.length_cons]; omega
theorem Row6.append {w : World} {S : Nat → Prop} : ∀ {l l' : List (PatT × Nat)} {cs cs' : List Value}, Row6 w S cs l → Row6 w S cs' l' → Row6 w S (cs ++ cs') (l ++ l')
  | [], _, cs, _, h, h' => by rw [Row6] at h; subst h; exact h'
  | p :: ps, _, cs, _, h, h' => by
    rw [Row6] at h; obtain ⟨c, r, rfl, h1, h2⟩ := h
    rw [List.append_assoc, List.cons_append, Row6]
    exact ⟨c, _, rfl, h1, h2.append h'⟩
theorem Row6.kept {w w' : World} {S : Nat → Prop} {X : Nat → Prop} : ∀ {l : List (PatT × Nat)} {cs : List Value}, Row6 w S cs l → Kept X w w' → Safe S X w.heap.size → Row6 w' S cs l
  | [], _, h, _, _ => h
  | p :: ps, cs, h, hk, hs => by
    rw [Row6] at h ⊢; obtain ⟨c, r, rfl, ⟨c5, rfl, h1⟩, h2⟩ := h
    exact ⟨_, r, rfl, ⟨c5, rfl, h1.kept hk hs⟩, h2.kept hk hs⟩

def refSizeR : Option (Nat × Nat) → Value
  | some (n, d) => .tuple #[.int .i64 n, .int .i64 d, .bool true]
  | none => .tuple #[.int .i64 0, .int .i64 0, .bool false]

set_option maxRecDepth 100000 in
set_option maxHeartbeats 2000000 in
theorem refSize_core (res : Option (Nat × Nat)) (p : PatT) (hres : qF (sizeT p) [(p, 1)] 0 0 = res) (v : Value) (S : Nat → Prop) (w : World) (hm : sizeT p ≤ 100000000) (hp : PatV w S v p) (hS : Safe S Nix w.heap.size) :
    Calls Try.prog 13 #[v] w (fun e w' => e = .returned (refSizeR res) ∧ Kept Nix w w') := by
  obtain ⟨k, t, n, nm, kids⟩ := p
  obtain ⟨ka, cap, rfl, hz, hk⟩ := hp
  dsimp only [PatT.kind_mk, PatT.text_mk, PatT.n_mk, PatT.name_mk, PatT.kids_mk] at hz hk ⊢
  have Hres0 := Lib.hid hres; clear hres
  obtain ⟨i0, hi, hz0, hz1, hz2⟩ := info_parts Try.infoOne
  go_enter Try.func13, Try.ntmps13
  go_wp2_with fail
  have K0 : Kept Nix w ((w.alloc (.cells #[.int .i64 k, .string t, .int .i64 n, .string nm, .slice ka kids.length cap] 24)).alloc (.cells #[.int .i64 k, .string t, .int .i64 n, .string nm, .slice ka kids.length cap, .int .i64 1] 66)) := ((Kept.refl _ _).alloc _).alloc _
  have W0 : Win ((w.alloc (.cells #[.int .i64 k, .string t, .int .i64 n, .string nm, .slice ka kids.length cap] 24)).alloc (.cells #[.int .i64 k, .string t, .int .i64 n, .string nm, .slice ka kids.length cap, .int .i64 1] 66)) w.heap.size 66 6
      (.slice (some ⟨w.heap.size + 1, 0, none⟩) 1 1) 1 [.int .i64 k, .string t, .int .i64 n, .string nm, .slice ka kids.length cap, .int .i64 1] :=
    ⟨rfl, .inr ⟨w.heap.size + 1, 0, 1, _, rfl, by omega, by have := heap_alloc_new (w.alloc (.cells #[.int .i64 k, .string t, .int .i64 n, .string nm, .slice ka kids.length cap] 24)) (.cells #[.int .i64 k, .string t, .int .i64 n, .string nm, .slice ka kids.length cap, .int .i64 1] 66); simpa using this, Nat.le_refl _, by decide, by simp, by simp⟩⟩
  have R0 : Row6 ((w.alloc (.cells #[.int .i64 k, .string t, .int .i64 n, .string nm, .slice ka kids.length cap] 24)).alloc (.cells #[.int .i64 k, .string t, .int .i64 n, .string nm, .slice ka kids.length cap, .int .i64 1] 66)) S [.int .i64 k, .string t, .int .i64 n, .string nm, .slice ka kids.length cap, .int .i64 1] [(.mk k t n nm kids, 1)] := by
    rw [Row6]; exact ⟨_, [], (List.append_nil _).symm, ⟨_, rfl, ka, cap, rfl, hz, hk.kept K0 hS⟩, rfl⟩
  generalize ((w.alloc (.cells #[.int .i64 k, .string t, .int .i64 n, .string nm, .slice ka kids.length cap] 24)).alloc (.cells #[.int .i64 k, .string t, .int .i64 n, .string nm, .slice ka kids.length cap, .int .i64 1] 66)) = w0 at K0 W0 R0 ⊢
  generalize hP : (PatT.mk k t n nm kids) = P at *
  have Hres := Hres0
  clear hP hk hz Hres0
  go_loopg [5, 6, 7] (sizeT P) (fun f v nv dv wr => ∃ (q : List (PatT × Nat)) (cs : List Value) (a : Option Addr) (c n d : Nat), v = .slice a q.length c ∧ nv = .int .i64 n ∧ dv = .int .i64 d ∧ Win wr w.heap.size 66 6 v q.length cs ∧ Row6 wr S cs q ∧ Kept Nix w wr ∧
      f = qsize q ∧ n ≤ 4096 ∧ d ≤ 200 ∧ f ≤ 100000000 ∧ Hid (qF f q n d = res) ∧ Hid (∀ x ∈ q, x.2 ≤ 201))
  case atStart => exact ⟨[(P, 1)], _, _, _, 0, 0, rfl, rfl, rfl, W0, R0, K0, by simp [qsize], by omega, by omega, hm, Hres.out, by intro x hx; simp at hx; subst hx; simp⟩
  case round =>
    obtain ⟨q, cs, a, c, nn, d, rfl, rfl, rfl, hW, hR, hK, hf, hn, hd, hb, hq, hx⟩ := hrel
    obtain ⟨wo, rfl⟩ : ∃ wo : World, wo = wr := ⟨_, rfl⟩
    cases q with
    | nil =>
      have fin : Hid (refSizeR res = .tuple #[.int .i64 nn, .int .i64 d, .bool true]) := by
        unfold Hid; rw [← hq.out]; cases gk <;> rfl
      clear hq hx hW hR hf
      go_wp2_with fail
      go_ret3
      exact ⟨by rw [fin.out]; rfl, hK⟩
    | cons x r =>
      rw [Row6] at hR
      obtain ⟨c0, rest, rfl, hN, hR⟩ := hR
      obtain ⟨c5, rfl, ⟨ka', cap', rfl, hz', hkk⟩⟩ := hN
      rcases hW.cells with ⟨_, h0⟩ | ⟨g, o, cp, hv, hg1, hg2, hc1, hc2, hcells⟩
      · simp at h0
      simp only [Value.slice.injEq, true_and] at hv
      obtain ⟨rfl, rfl⟩ := hv
      have p0 := (hcells 0 _ rfl).1; have p1 := (hcells 1 _ rfl).1; have p2 := (hcells 2 _ rfl).1; have p3 := (hcells 3 _ rfl).1; have p4 := (hcells 4 _ rfl).1; have p5 := (hcells 5 _ rfl).1
      have hx2 : x.2 ≤ 201 := hx.out x (by simp)
      have hW1 := Win.tail (n := r.length) hW rfl
      rw [Nat.add_zero] at p0
      have HF := Lib.hid hf; have HW1 := Lib.hid hW1; have HR := Lib.hid hR
      clear hcells hW hf hW1 hR
      rw [List.length_cons] at *
      obtain ⟨f', hf'⟩ : ∃ f', gk = f' + 1 ∧ f' = sizeT x.1 - 1 + qsize r := by
        have h1 := sizeT_pos x.1
        have h2 := HF.out; rw [qsize] at h2
        exact ⟨sizeT x.1 - 1 + qsize r, by omega, rfl⟩
      obtain ⟨rfl, hf2⟩ := hf'
      have HF2 := Lib.hid hf2; clear hf2 HF
      by_cases hbig : 4096 < nn + 1 ∨ 200 < max d x.2
      · have fin : Hid (res = none) := by unfold Hid; rw [← hq.out, qF, if_pos hbig]
        clear hq hx HW1 HR HF2
        by_cases hcp : c = 1 <;> by_cases h4 : nn = 4096 <;> by_cases h5 : d < x.2
        all_goals first
          | (exfalso; omega)
          | (go_wp2_with fail
             go_ret3
             exact ⟨by rw [fin.out]; rfl, by repeat (first | exact hK | refine Kept.alloc ?_ _)⟩)
      · have hx200 : x.2 ≤ 200 := by omega
        have hnn : nn + 1 ≤ 4096 := by omega
        have hmax : max d x.2 ≤ 200 := by omega
        have hq' : Hid (qF (sizeT x.1 - 1 + qsize r) (r ++ x.1.kids.map fun k => (k, x.2 + 1)) (nn + 1) (max d x.2) = res) := by
          unfold Hid; rw [← hq.out, qF, if_neg hbig, HF2.out]
        have hxr : Hid (∀ y ∈ r ++ x.1.kids.map (fun k => (k, x.2 + 1)), y.2 ≤ 201) := by
          intro y hy
          rcases List.mem_append.1 hy with h | h
          · exact hx.out y (by simp [h])
          · obtain ⟨_, _, rfl⟩ := List.mem_map.1 h; simp; omega
        clear hbig hq hx
        obtain ⟨A1, hA1, W1⟩ : ∃ A1, (if c = 1 then some ⟨g, o, none⟩ else some ⟨g, o + 6, none⟩ : Option Addr) = A1 ∧ Win wo w.heap.size 66 6 (.slice A1 r.length (c - 1)) r.length rest := ⟨_, rfl, by simpa using HW1.out⟩
        have HWW := Lib.hid W1
        have hg : A1 = some ⟨g, o, none⟩ ∨ A1 = some ⟨g, o + 6, none⟩ := by rw [← hA1]; split; exact .inl rfl; exact .inr rfl
        clear HW1 W1
        have hlen : r.length + sizeL x.1.kids ≤ 100000000 := by
          have h1 := length_le_qsize r; have h2 := HF2.out
          have h3 : sizeT x.1 = 1 + sizeL x.1.kids := by cases hx1 : x.1; rw [sizeT, PatT.kids_mk]
          omega
        have hkl := length_le_sizeL x.1.kids
        have hfq : Hid (sizeT x.1 - 1 + qsize r = qsize (r ++ x.1.kids.map fun k => (k, x.2 + 1))) := by
          have h3 : sizeT x.1 = 1 + sizeL x.1.kids := by cases hx1 : x.1; rw [sizeT, PatT.kids_mk]
          unfold Hid; rw [qsize_append, qsize_kids]; omega
        have hSr : Safe S Nix wo.heap.size := hS.mono hK.size
        have X0 : ∃ X, X = wo.heap.size := ⟨_, rfl⟩
        have hBX : w.heap.size ≤ wo.heap.size := hK.size
        have start : ∀ cs1 : Array Value, Kept Nix w (wo.alloc (.cells cs1 66)) ∧ Win (wo.alloc (.cells cs1 66)) w.heap.size 66 6 (.slice A1 r.length (c - 1)) r.length rest ∧ Row6 (wo.alloc (.cells cs1 66)) S rest r ∧ PatsAt (wo.alloc (.cells cs1 66)) S ka' x.1.kids :=
          fun cs1 => ⟨hK.alloc _, HWW.out.alloc _, HR.out.kept ((Kept.refl Nix wo).alloc _) hSr, hkk.kept ((Kept.refl Nix wo).alloc _) hSr⟩
        have HST := Lib.hid start
        have hown : (Value.slice A1 r.length (c - 1)).ownBlock ≠ some wo.heap.size := by
          rcases hg with h | h <;> rw [h] <;> simp [Value.ownBlock] <;> omega
        have HOWN := Lib.hid hown
        clear start HWW HR hown hkk hg
        go_upto_if 27 with fail
        go_cut [7] (fun dv w' => dv = .int .i64 ((max d x.2 : Nat) : Int) ∧ wo.alloc (.cells #[.int .i64 x.1.kind, .string x.1.text, .int .i64 x.1.n, .string x.1.name, .slice ka' x.1.kids.length cap', .int .i64 x.2] 66) = w')
        case first =>
          by_cases h5 : d < x.2
          · go_wp2_with fail
            go_meet
            exact ⟨int_eq (by omega), rfl⟩
          · go_wp2_with fail
            go_meet
            exact ⟨int_eq (by omega), rfl⟩
        case rest =>
          obtain ⟨rfl, rfl⟩ := hcut
          go_wp2_with fail
          go_loopw [5, 40] (fun v i w2 => ∃ (j : Nat) (cs2 : List Value) (a2 : Option Addr) (c2 : Nat), j ≤ x.1.kids.length ∧ i = .int .i64 j ∧ v = .slice a2 (r.length + j) c2 ∧ Win w2 w.heap.size 66 6 v (r.length + j) (rest ++ cs2) ∧
            Row6 w2 S (rest ++ cs2) (r ++ (x.1.kids.take j).map fun k => (k, x.2 + 1)) ∧ Kept Nix w w2 ∧ w2.cell? ⟨wo.heap.size, 5, none⟩ = some (.int .i64 x.2) ∧ wo.heap.size < w2.heap.size ∧ v.ownBlock ≠ some wo.heap.size ∧ PatsAt w2 S ka' x.1.kids) (fun _ i _ => x.1.kids.length - (intOf i).toNat)
          case atStart => exact ⟨0, [], A1, c - 1, Nat.zero_le _, rfl, rfl, by simpa using (HST.out _).2.1, by simpa using (HST.out _).2.2.1, (HST.out _).1, by simp, by simp, HOWN.out, (HST.out _).2.2.2⟩
          case round =>
            obtain ⟨j, cs2, a2, c2, hj, rfl, rfl, hW, hR2, hK2, hc5, hlt5, hno, hkk⟩ := hrel
            clear p0 p1 p2 p3 p4 p5 hA1
            by_cases hlt : j < x.1.kids.length
            · obtain ⟨kb, ko, rfl⟩ := PatsAt_head hkk (by omega)
              have hkid := PatsAt_get x.1.kids kb ko j hlt hkk
              obtain ⟨hSb, hzk, r0, r1, r2, r3, ka2, cap2, r4, hk2⟩ := hkid.open
              have hS2 : Safe S Nix wr.heap.size := hS.mono hK2.size
              have hB2 := hK2.size
              have HW2 := Lib.hid hW; have HRR := Lib.hid hR2; have HNO := Lib.hid hno; have HS2 := Lib.hid hS2; have HKK := Lib.hid hkk; have HK22 := Lib.hid hk2
              have hbx : ∀ (d1 d2 : Array Value) (t1 t2 : TypeId), ((wr.alloc (.cells d1 t1)).alloc (.cells d2 t2)).cell? ⟨wo.heap.size, 5, none⟩ = some (.int .i64 x.2) := fun d1 d2 t1 t2 => by
                rw [World.cell?_alloc_past _ _ _ (by simp; omega), World.cell?_alloc_past _ _ _ hlt5]; exact hc5
              have HBX := Lib.hid hbx
              clear hW hR2 hno hS2 hkk hk2 hkid hbx
              go_wp2_with (at_builtin; go_loud (refine wpList_append_win _ rfl (.tmp 44) (.tmp 50) 67 67 rfl w.heap.size 66 i0 (.agg #[.int .i64 0, .string ⟨#[]⟩, .int .i64 0, .string ⟨#[]⟩, .slice none 0 0, .int .i64 0]) 6 80 Try.underlying67 hi hz0 hz1 hz2 rfl _ (r.length + j) (rest ++ cs2) rfl ((HW2.out.alloc _).alloc _) _ 1 [.int .i64 x.1.kids[j].kind, .string x.1.kids[j].text, .int .i64 x.1.kids[j].n, .string x.1.kids[j].name, .slice ka2 x.1.kids[j].kids.length cap2, .int .i64 ((x.2 : Int) + 1)] rfl (Src.ofSlice _ Try.underlying67 _ _ _ _ rfl (World.news_of_block (fr := (0, 0)) (cs := #[.int .i64 x.1.kids[j].kind, .string x.1.kids[j].text, .int .i64 x.1.kids[j].n, .string x.1.kids[j].name, .slice ka2 x.1.kids[j].kids.length cap2, .int .i64 ((x.2 : Int) + 1)]) (by simpa using heap_alloc_new (wr.alloc _) _)) (by intro u hu; simp at hu; rcases hu with rfl | rfl | rfl | rfl | rfl | rfl <;> rfl)) (by unfold maxLen; omega) (by omega) (by simp; omega) ?_); intro a3 c3 w3 hW3 hg3 ho3)
              have hlow : ∀ g, (Value.slice a2 (r.length + j) c2).ownBlock = some g → w.heap.size ≤ g := fun g hg => (HW2.out.lt g hg).1
              have kk : Kept (fun k => (Value.slice a2 (r.length + j) c2).ownBlock = some k) wr w3 := (((Kept.refl _ wr).alloc _).alloc _).grown hg3 fun k hk => .inl hk
              have hsafe : Safe S (fun k => (Value.slice a2 (r.length + j) c2).ownBlock = some k) wr.heap.size := fun b hb => ⟨(HS2.out b hb).1, fun h => by have h1 := hlow b h; have h2 := (hS b hb).1; omega⟩
              have K3 : Kept Nix w w3 := hK2.step kk fun k hk => .inr (hlow k hk)
              have hrow : Row6 w3 S [.int .i64 x.1.kids[j].kind, .string x.1.kids[j].text, .int .i64 x.1.kids[j].n, .string x.1.kids[j].name, .slice ka2 x.1.kids[j].kids.length cap2, .int .i64 ((x.2 : Int) + 1)] [(x.1.kids[j], x.2 + 1)] := by
                rw [Row6]; exact ⟨_, [], (List.append_nil _).symm, ⟨[.int .i64 x.1.kids[j].kind, .string x.1.kids[j].text, .int .i64 x.1.kids[j].n, .string x.1.kids[j].name, .slice ka2 x.1.kids[j].kids.length cap2], by simp, ka2, cap2, rfl, hzk, HK22.out.kept kk hsafe⟩, rfl⟩
              have hrr : Row6 w3 S (rest ++ (cs2 ++ [.int .i64 x.1.kids[j].kind, .string x.1.kids[j].text, .int .i64 x.1.kids[j].n, .string x.1.kids[j].name, .slice ka2 x.1.kids[j].kids.length cap2, .int .i64 ((x.2 : Int) + 1)])) (r ++ (x.1.kids.take (j + 1)).map fun k => (k, x.2 + 1)) := by
                have h := (HRR.out.kept kk hsafe).append hrow
                rw [List.take_succ_eq_append_getElem hlt, List.map_append, ← List.append_assoc, ← List.append_assoc]; exact h
              have hc3 : w3.cell? ⟨wo.heap.size, 5, none⟩ = some (.int .i64 x.2) := (kk.cell hlt5 HNO.out).trans hc5
              have hno3 : (Value.slice a3 (r.length + j + 1) c3).ownBlock ≠ some wo.heap.size := by
                rcases ho3 with h | h
                · rw [h]; exact HNO.out
                · rw [h]; simp; omega
              have FIN : Hid _ := (⟨hW3, hrr, K3, hc3, Nat.lt_of_lt_of_le hlt5 kk.size, hno3, HKK.out.kept kk hsafe⟩ : _ ∧ _ ∧ _ ∧ _ ∧ _ ∧ _ ∧ _)
              clear hW3 hrr K3 hc3 hno3 kk hsafe hrow hlow hg3 ho3
              go_roundw
              case rel =>
                obtain ⟨f1, f2, f3, f4, f5, f6, f7⟩ := FIN.out
                exact ⟨j + 1, _, a3, c3, by omega, by go_num, rfl, by rw [← List.append_assoc]; exact f1, f2, f3, f4, f5, f6, f7⟩
              case measure => simp [intOf]; omega
            · have hjl : j = x.1.kids.length := by omega
              have hql : (r ++ x.1.kids.map fun k => (k, x.2 + 1)).length = r.length + j := by rw [List.length_append, List.length_map, hjl]
              have hR3 : Row6 wr S (rest ++ cs2) (r ++ x.1.kids.map fun k => (k, x.2 + 1)) := by rw [hjl, List.take_length] at hR2; exact hR2
              have HQL := Lib.hid hql; have HR3 := Lib.hid hR3; have HWW2 := Lib.hid hW
              clear hjl hql hR3 hW hR2 hno
              go_wp2_with fail
              go_roundg (sizeT x.1 - 1 + qsize r)
              case measure => have := HF2.out; omega
              case rel => exact ⟨r ++ x.1.kids.map fun k => (k, x.2 + 1), rest ++ cs2, a2, c2, nn + 1, max d x.2, by rw [HQL.out], by go_num, rfl, by rw [HQL.out]; exact HWW2.out, HR3.out, hK2, hfq.out, hnn, hmax, by have := HF2.out; omega, hq', hxr⟩
theorem refSize_any (p : PatT) (v : Value) (S : Nat → Prop) (w : World) (hm : sizeT p ≤ 100000000) (hp : PatV w S v p) (hS : Safe S Nix w.heap.size) :
    Calls Try.prog 13 #[v] w (fun e w' => e = .returned (refSizeR (qF (sizeT p) [(p, 1)] 0 0)) ∧ Kept Nix w w') :=
  refSize_core _ p rfl v S w hm hp hS
end Go.Proofs.Ytdnglicgmlldlaa
namespace Go.Proofs.Ytdnglicgmlldlaa
open Go.RowKit

theorem ralt_of_deep {N G : Nat} {s : ByteArray} {d m : Nat} (hs : s.size ≤ 65536) (hd2 : d ≤ 200) (hd : DeepR N G s d (innerP s m)) : AltR N G s (d + 0) (altP (innerP s m) s) := fun i w h hi =>
  alts_any N G s d (innerP s m)
    (fun i w h hi => cats_any N G s d (innerP s m) (given_any N G s d _ (piece_any N G s d _ hd hs hd2) (fun _ _ _ hi h => head_fwd (inner_fwd s m) hi h) hs hd2) (item_fwd (inner_fwd s m)) hs hd2 i w h hi)
    (cat_fwd (inner_fwd s m)) hs hd2 i w h hi
theorem deep_all (N G : Nat) (s : ByteArray) (hs : s.size ≤ 65536) : ∀ (m d : Nat), 200 = d + m → DeepR N G s d (innerP s m)
  | 0, d, h => by obtain rfl : d = 200 := by omega
                  exact deeper_deep N G s hs
  | m + 1, d, h => deeper_more N G s hs d m h (ralt_of_deep hs (by omega) (deep_all N G s hs m (d + 1) (by omega)))
theorem ralt_all (N G : Nat) (s : ByteArray) (hs : s.size ≤ 65536) : AltR N G s 0 (altP (innerP s 200) s) := ralt_of_deep hs (by omega) (deep_all N G s hs 200 0 rfl)

theorem wk_start {s : ByteArray} {w3 : World} {B : Nat} {v : Value} (T : TokW w3 B v (toks s 0)) (hs : s.size ≤ 65536) : ∃ G o c, v = .slice (some ⟨G, o, none⟩) (toks s 0).length c ∧ B ≤ G ∧ G < w3.heap.size ∧
    Wk w3.heap.size G s (toks s 0) 0 (0, 0) (w3.alloc (.cells #[.slice (some ⟨G, o, none⟩) (toks s 0).length c, .string s, .int .i64 0, .int .i64 0, .int .i64 0] 56)) := by
  have hne : toks s 0 ≠ [] := by rw [toks_cons (Nat.zero_le _)]; simp
  have hlen := toks_length (s := s) (s.size) 0 (by omega) (Nat.zero_le _)
  rcases Win.cells T with ⟨_, hn⟩ | ⟨G, o, c, rfl, hB, hG, hnc, _, hc⟩
  · exact absurd (List.length_eq_zero_iff.1 hn) hne
  · refine ⟨G, o, c, rfl, hB, hG, ⟨_, heap_alloc_new w3 _, ?_⟩, by omega, by simp; omega, hne, by omega⟩
    exact ⟨o, c, rfl, hnc, fun j u hu => ((Kept.refl Nix w3).alloc _).cell hG (fun h => h) |>.trans (hc j u hu).1⟩

theorem ret_read {f : Func} (hres : f.results = #[.cell 2 24, .cell 3 27]) {s : ByteArray} {w w' : World} {tmps : Array Value} {A1 A2 : Nat} {c0 c1 c2 c3 c4 d0 d1 : Value} (h2 : tmps.getD 2 undef = .pointer (some ⟨A1, 0, none⟩)) (h3 : tmps.getD 3 undef = .pointer (some ⟨A2, 0, none⟩))
    (F : Five A1 c0 c1 c2 c3 c4 w') (T : Two A2 d0 d1 w') (hR : ReadPost s w (.returned (.tuple #[.agg #[c0, c1, c2, c3, c4], .agg #[d0, d1]])) w') : bodyPost Try.prog f (ReadPost s w) .ret ⟨tmps, []⟩ w' := by
  obtain ⟨x0, x1, x2, x3, x4, _⟩ := F.cells
  obtain ⟨y0, y1, _⟩ := T.cells
  have ht2 : tmps[2]?.getD undef = .pointer (some ⟨A1, 0, none⟩) := by rw [← h2, Array.getD_eq_getD_getElem?]
  have ht3 : tmps[3]?.getD undef = .pointer (some ⟨A2, 0, none⟩) := by rw [← h3, Array.getD_eq_getD_getElem?]
  exact bodyPost_ret (v := .tuple #[.agg #[c0, c1, c2, c3, c4], .agg #[d0, d1]]) (by simp [results, hres, go_sem, ht2, ht3, x0, x1, x2, x3, x4, y0, y1]) rfl hR
theorem hd_end (s : ByteArray) (i : Nat) : (hd s i).kind = 305 ↔ ¬ 0 ≤ peek s (skip s i) := by
  rw [hd_kind]
  have := peek_hi s (skip s i)
  have hlow : -1 ≤ peek s (skip s i) := by unfold peek; split <;> omega
  split
  · split <;> constructor <;> intro h <;> omega
  · split
    · constructor <;> intro h <;> omega
    · split
      · constructor <;> intro h <;> omega
      · split
        · constructor <;> intro h <;> omega
        · constructor <;> intro h <;> omega
end Go.Proofs.Ytdnglicgmlldlaa
namespace Go.Proofs.Ytdnglicgmlldlaa
open Go.RowKit

set_option maxRecDepth 100000 in
set_option maxHeartbeats 2000000 in
theorem rread_any (s : ByteArray) (w : World) (hs : s.size ≤ maxLen) : Calls Try.prog 6 #[.string s] w (ReadPost s w) := by
  unfold maxLen at hs
  have Z2 : Hid (Five w.heap.size (.int .i64 0) (.string ⟨#[]⟩) (.int .i64 0) (.string ⟨#[]⟩) (.slice none 0 0) ((w.alloc (.cells #[.int .i64 0, .string ⟨#[]⟩, .int .i64 0, .string ⟨#[]⟩, .slice none 0 0] 24)).alloc (.cells #[.int .i64 0, .int .i64 0] 27))) := Five.kept (heap_alloc_new w _) ((Kept.refl Nix _).alloc _) (fun h => h)
  have T2 : Hid (Two (w.heap.size + 1) (.int .i64 0) (.int .i64 0) ((w.alloc (.cells #[.int .i64 0, .string ⟨#[]⟩, .int .i64 0, .string ⟨#[]⟩, .slice none 0 0] 24)).alloc (.cells #[.int .i64 0, .int .i64 0] 27))) := heap_new2 (by simp)
  have K2 : Hid (Kept Nix w ((w.alloc (.cells #[.int .i64 0, .string ⟨#[]⟩, .int .i64 0, .string ⟨#[]⟩, .slice none 0 0] 24)).alloc (.cells #[.int .i64 0, .int .i64 0] 27))) := ((Kept.refl Nix w).alloc _).alloc _
  obtain ⟨w2, hw2⟩ : ∃ w2, w2 = ((w.alloc (.cells #[.int .i64 0, .string ⟨#[]⟩, .int .i64 0, .string ⟨#[]⟩, .slice none 0 0] 24)).alloc (.cells #[.int .i64 0, .int .i64 0] 27)) := ⟨_, rfl⟩
  have hz2 : w2.heap.size = w.heap.size + 2 := by rw [hw2]; simp
  rw [← hw2] at Z2 T2 K2
  have HZ2 := Lib.hid hz2
  by_cases hl : 65536 < s.size
  · have hr : Hid (readP s = .error (4, 0)) := by unfold Hid readP; rw [if_pos hl]
    clear Z2 T2 K2 hw2 HZ2 hz2
    go_enter Try.func6, Try.ntmps6
    go_wp2_with fail
    exact bodyPost_ret (v := .tuple #[zeroV, faultV (4, 0)]) (by simp [results, Try.results6, go_sem, zeroV, faultV]) rfl (read_err hr.out (by repeat (first | exact Kept.refl _ _ | refine Kept.alloc ?_ _)))
  · have hs6 : s.size ≤ 65536 := by omega
    have HW2 := Lib.hid hw2
    have HL := Lib.hid hl
    clear hw2
    go_enter Try.func6, Try.ntmps6
    go_upto_region 3 with fail
    rw [← HW2.out]; clear HW2 hl
    go_wp2_with fail
    refine (signs_any s _ hs6).mono ?_
    rintro e w3 ⟨v, x, rfl, T3, K3⟩
    obtain ⟨G, o, c, rfl, hBG, hG3, W4⟩ := wk_start T3 hs6
    have hsz3 := K3.size
    have K4 : Kept Nix w2 (w3.alloc (.cells #[.slice (some ⟨G, o, none⟩) (toks s 0).length c, .string s, .int .i64 0, .int .i64 0, .int .i64 0] 56)) := K3.quiet ((Kept.refl Nix w3).alloc _)
    have Z4 := Lib.hid (Five.kept Z2.out K4 (fun h => h))
    have T4 := Lib.hid (Two.kept T2.out K4 (fun h => h))
    have KK4 := Lib.hid (K2.out.trans K4)
    have hz4 : (w3.alloc (.cells #[.slice (some ⟨G, o, none⟩) (toks s 0).length c, .string s, .int .i64 0, .int .i64 0, .int .i64 0] 56)).heap.size = w3.heap.size + 1 := by simp
    obtain ⟨w4, hw4⟩ : ∃ w4, w4 = (w3.alloc (.cells #[.slice (some ⟨G, o, none⟩) (toks s 0).length c, .string s, .int .i64 0, .int .i64 0, .int .i64 0] 56)) := ⟨_, rfl⟩
    rw [← hw4] at W4 Z4 T4 KK4 hz4
    have HW4 := Lib.hid hw4; have WW4 := Lib.hid W4
    generalize hN : w3.heap.size = N at *
    clear T3 K3 K4 hw4 W4 Z2 T2 K2
    go_wp2_with fail
    rw [← HW4.out]
    refine (ralt_all N G s hs6 0 w4 WW4.out (Nat.zero_le _)).mono ?_
    rintro e w5 ⟨q, _, l, d', b, rfl, ⟨S, hS, ⟨ka, cap, rfl, hz, hk⟩⟩, W5, R5, K5⟩
    have hsz5 := K5.size
    have KX : Kept Nix w w5 := KK4.out.step K5 (fun y hy => .inr (by omega))
    have Z5 := Five.kept Z4.out K5 (by omega)
    have T5 := Two.kept T4.out K5 (by omega)
    have ne12 : w.heap.size ≠ w.heap.size + 1 := by omega
    have kA : Kept Nix w5 (w5.alloc (.cells #[.int .i64 q.kind, .string q.text, .int .i64 q.n, .string q.name, .slice ka q.kids.length cap] 24)) := (Kept.refl _ _).alloc _
    obtain ⟨w6, hw6⟩ : ∃ w6, w6 = w5.alloc (.cells #[.int .i64 q.kind, .string q.text, .int .i64 q.n, .string q.name, .slice ka q.kids.length cap] 24) := ⟨_, rfl⟩
    have P6 : Hid (Five w5.heap.size (.int .i64 q.kind) (.string q.text) (.int .i64 q.n) (.string q.name) (.slice ka q.kids.length cap) w6) := by rw [hw6]; exact heap_alloc_new w5 _
    rw [← hw6] at kA
    have hsz6 := kA.size
    have Z6 := Lib.hid (Five.kept Z5 kA (fun h => h))
    have T6 := Lib.hid (Two.kept T5 kA (fun h => h))
    have W6 := W5.kept kA (fun h => h) (fun h => h)
    have K6 := Lib.hid (KX.trans kA)
    have HK6 := Lib.hid (hk.kept kA (fun b hb => ⟨(hS b hb).2, fun h => h⟩))
    have HS := Lib.hid hS; have HZ := Lib.hid hz
    have HW6 := Lib.hid hw6
    obtain ⟨b3, b4⟩ := W6.bad
    clear kA Z5 T5 KX K5 W5 hS hz hk hw6 Z4 T4 KK4 WW4 HW4
    cases ha : altP (innerP s 200) s 0 with
    | error er =>
      rw [ha] at R5; obtain ⟨rfl, h1, h2, h3⟩ := R5
      have hr : Hid (readP s = .error b) := by unfold Hid readP; rw [if_neg HL.out, ha]
      have hb1 : (b.1 == 0) = false := by simpa using h1
      have hb2 : (b.1 != 0) = true := by simpa using h1
      clear ha h1 h2 h3 HL W6
      obtain ⟨c0, c1, c2, c3, c4, cf⟩ := Five.cells Z6.out
      have f0 := cf 0; have f1 := cf 1; have f2 := cf 2; have f3 := cf 3; have f4 := cf 4; clear cf
      obtain ⟨t0, t1, tf⟩ := T6.out.cells
      have g0 := tf 0; have g1 := tf 1; clear tf
      have K9 : Hid (Kept (fun y => y = w.heap.size ∨ y = w.heap.size + 1) w6 (set2 (set5 w6 w.heap.size (.int .i64 0) (.string ⟨#[]⟩) (.int .i64 0) (.string ⟨#[]⟩) (.slice none 0 0)) (w.heap.size + 1) (.int .i64 b.1) (.int .i64 b.2))) := ((Kept.refl _ w6).set5 (.inl (.inl rfl)) _ _ _ _ _).set2 (.inl (.inr rfl)) _ _
      have F9 : Hid (Zero5 w.heap.size (set2 (set5 w6 w.heap.size (.int .i64 0) (.string ⟨#[]⟩) (.int .i64 0) (.string ⟨#[]⟩) (.slice none 0 0)) (w.heap.size + 1) (.int .i64 b.1) (.int .i64 b.2))) :=
        Five.kept (Z6.out.set5 _ _ _ _ _) ((Kept.refl (· = w.heap.size + 1) _).set2 (.inl rfl) _ _) ne12
      have T9 : Hid (Two (w.heap.size + 1) (.int .i64 b.1) (.int .i64 b.2) (set2 (set5 w6 w.heap.size (.int .i64 0) (.string ⟨#[]⟩) (.int .i64 0) (.string ⟨#[]⟩) (.slice none 0 0)) (w.heap.size + 1) (.int .i64 b.1) (.int .i64 b.2))) :=
        (T6.out.kept ((Kept.refl (· = w.heap.size) w6).set5 (.inl rfl) _ _ _ _ _) (fun h => ne12 h.symm)).set2 _ _

      go_upto_region 6 with fail
      rw [← HW6.out]
      go_wp2_with fail
      go_region
      all_goals go_wp2_with fail
      exact ret_read rfl rfl rfl (F9.out.kept (Kept.refl Nix _).drew (fun h => h)) (T9.out.kept (Kept.refl Nix _).drew (fun h => h)) (read_err hr.out (K6.out.step K9.out.drew (fun y hy => .inr (by omega))))
    | ok y =>
      obtain ⟨p, k⟩ := y
      rw [ha] at R5; obtain ⟨rfl, rfl, rfl, rfl⟩ := R5
      obtain ⟨hsp, hks⟩ := read_sz hs6 ha
      have HA := Lib.hid ha
      have W6' := W6
      rw [toks_cons hks] at W6'
      obtain ⟨o', c', x', r', e', hF, hLA⟩ := W6'.open
      simp only [List.cons.injEq] at e'
      obtain ⟨rfl, rfl⟩ := e'
      obtain ⟨v0, _⟩ := hF.cells
      obtain ⟨l0, l1, l2, l3⟩ := hLA.head
      rw [hd_at hks] at l2
      have HW6c := Lib.hid W6
      clear ha hF hLA W6 W6'
      by_cases hp : 0 ≤ peek s (skip s k)
      · have hr : Hid (readP s = .error (2, skip s k)) := by unfold Hid readP; rw [if_neg HL.out, HA.out]; dsimp only; rw [if_pos hp]
        have hkd : ((hd s k).kind != 305) = true := by
          have : (hd s k).kind ≠ 305 := fun h => (hd_end s k).1 h hp
          simpa using this
        clear hp HA HL
        go_upto_region 6 with fail
        rw [← HW6.out]
        go_wp2_with fail
        refine (stop_at N G s _ 0 _ (2, skip s k) _ rfl _ HW6c.out).mono ?_
        rintro e w7 ⟨rfl, W7, K7⟩
        rw [stopB_ok] at W7
        have hsz7 := K7.size
        have Z7 := Lib.hid (Five.kept Z6.out K7 (by omega))
        have T7 := Lib.hid (Two.kept T6.out K7 (by omega))
        have K7' : Hid (Kept Nix w w7) := K6.out.step K7 (fun y hy => .inr (by omega))
        clear b3 b4 v0 l0 l1 l2 l3 K7
        obtain ⟨b3, b4⟩ := W7.bad
        clear W7
        obtain ⟨c0, c1, c2, c3, c4, cf⟩ := Five.cells Z7.out
        have f0 := cf 0; have f1 := cf 1; have f2 := cf 2; have f3 := cf 3; have f4 := cf 4; clear cf
        obtain ⟨t0, t1, tf⟩ := T7.out.cells
        have g0 := tf 0; have g1 := tf 1; clear tf
        have K9 : Hid (Kept (fun y => y = w.heap.size ∨ y = w.heap.size + 1) w7 (set2 (set5 w7 w.heap.size (.int .i64 0) (.string ⟨#[]⟩) (.int .i64 0) (.string ⟨#[]⟩) (.slice none 0 0)) (w.heap.size + 1) (.int .i64 2) (.int .i64 (skip s k : Nat)))) := ((Kept.refl _ w7).set5 (.inl (.inl rfl)) _ _ _ _ _).set2 (.inl (.inr rfl)) _ _
        have F9 : Hid (Zero5 w.heap.size (set2 (set5 w7 w.heap.size (.int .i64 0) (.string ⟨#[]⟩) (.int .i64 0) (.string ⟨#[]⟩) (.slice none 0 0)) (w.heap.size + 1) (.int .i64 2) (.int .i64 (skip s k : Nat)))) :=
          Five.kept (Z7.out.set5 _ _ _ _ _) ((Kept.refl (· = w.heap.size + 1) _).set2 (.inl rfl) _ _) ne12
        have T9 : Hid (Two (w.heap.size + 1) (.int .i64 2) (.int .i64 (skip s k : Nat)) (set2 (set5 w7 w.heap.size (.int .i64 0) (.string ⟨#[]⟩) (.int .i64 0) (.string ⟨#[]⟩) (.slice none 0 0)) (w.heap.size + 1) (.int .i64 2) (.int .i64 (skip s k : Nat)))) :=
          (T7.out.kept ((Kept.refl (· = w.heap.size) w7).set5 (.inl rfl) _ _ _ _ _) (fun h => ne12 h.symm)).set2 _ _

        go_wp2_with fail
        go_region
        all_goals go_wp2_with fail
        exact ret_read rfl rfl rfl (F9.out.kept (Kept.refl Nix _).drew (fun h => h)) (T9.out.kept (Kept.refl Nix _).drew (fun h => h)) (read_err hr.out (K7'.out.step K9.out.drew (fun y hy => .inr (by omega))))
      · have hkd : ((hd s k).kind != 305) = false := by
          have := (hd_end s k).2 hp; simpa using this
        have PV : Hid (PatV w6 (· < w6.heap.size) (.agg #[.int .i64 q.kind, .string q.text, .int .i64 q.n, .string q.name, .slice ka q.kids.length cap]) q) := ⟨ka, cap, rfl, HZ.out, PatsAt.same (fun _ _ => rfl) (fun b hb => by have := (HS.out b hb).2; omega) _ _ HK6.out⟩
        obtain ⟨q0, q1, q2, q3, q4, _⟩ := P6.out.cells
        have HP := Lib.hid hp
        clear hp
        go_upto_region 6 with fail
        rw [← HW6.out]
        go_wp2_with fail
        refine (refSize_any q _ (· < w6.heap.size) w6 (by omega) PV.out (Safe.lt (Nat.le_refl _))).mono ?_
        rintro e w8 ⟨rfl, k_⟩
        rw [qF_fits]
        have Z8 := Lib.hid (Five.kept Z6.out k_ (fun h => h)); have T8 := Lib.hid (T6.out.kept k_ (fun h => h))
        have P8 := Lib.hid (P6.out.kept k_ (fun h => h))
        have K8 : Hid (Kept Nix w w8) := K6.out.trans k_
        have HK8 := Lib.hid (HK6.out.kept k_ (fun b hb => ⟨by have := (HS.out b hb).2; omega, fun h => h⟩))
        have hsz8 := k_.size
        clear k_ q0 q1 q2 q3 q4 PV b3 b4 v0 l0 l1 l2 l3
        obtain ⟨q0, q1, q2, q3, q4, _⟩ := P8.out.cells
        by_cases hf : fits q
        · have hr : Hid (readP s = .ok q) := by unfold Hid readP; rw [if_neg HL.out, HA.out]; dsimp only; rw [if_neg (by have := HP.out; omega), if_pos hf]
          rw [if_pos hf]
          clear hf HP HA HL
          unfold refSizeR
          obtain ⟨c0, c1, c2, c3, c4, cf⟩ := Five.cells Z8.out
          have f0 := cf 0; have f1 := cf 1; have f2 := cf 2; have f3 := cf 3; have f4 := cf 4; clear cf
          obtain ⟨t0, t1, tf⟩ := T8.out.cells
          have g0 := tf 0; have g1 := tf 1; clear tf
          have K9 : Hid (Kept (fun y => y = w.heap.size ∨ y = w.heap.size + 1) w8 (set2 (set5 w8 w.heap.size (.int .i64 q.kind) (.string q.text) (.int .i64 q.n) (.string q.name) (.slice ka q.kids.length cap)) (w.heap.size + 1) (.int .i64 0) (.int .i64 0))) := ((Kept.refl _ w8).set5 (.inl (.inl rfl)) _ _ _ _ _).set2 (.inl (.inr rfl)) _ _
          have F9 : Hid (Five w.heap.size (.int .i64 q.kind) (.string q.text) (.int .i64 q.n) (.string q.name) (.slice ka q.kids.length cap) (set2 (set5 w8 w.heap.size (.int .i64 q.kind) (.string q.text) (.int .i64 q.n) (.string q.name) (.slice ka q.kids.length cap)) (w.heap.size + 1) (.int .i64 0) (.int .i64 0))) :=
            (Z8.out.set5 _ _ _ _ _).kept ((Kept.refl (· = w.heap.size + 1) _).set2 (.inl rfl) _ _) ne12
          have T9 : Hid (Two (w.heap.size + 1) (.int .i64 0) (.int .i64 0) (set2 (set5 w8 w.heap.size (.int .i64 q.kind) (.string q.text) (.int .i64 q.n) (.string q.name) (.slice ka q.kids.length cap)) (w.heap.size + 1) (.int .i64 0) (.int .i64 0))) :=
            (T8.out.kept ((Kept.refl (· = w.heap.size) w8).set5 (.inl rfl) _ _ _ _ _) (fun h => ne12 h.symm)).set2 _ _
          go_wp2_with fail
          refine ret_read rfl rfl rfl F9.out T9.out ?_
          unfold ReadPost
          rw [hr.out]
          refine ⟨K8.out.step K9.out (fun y hy => .inr (by omega)), _, rfl, S, fun b hb => ?_, ka, cap, rfl, HZ.out, HK8.out.kept K9.out (fun b hb => ?_)⟩
          · have := HS.out b hb; exact ⟨by omega, Nat.lt_of_lt_of_le (show b < w8.heap.size by omega) K9.out.size⟩
          · have := HS.out b hb; omega
        · have hr : Hid (readP s = .error (4, 0)) := by unfold Hid readP; rw [if_neg HL.out, HA.out]; dsimp only; rw [if_neg (by have := HP.out; omega), if_neg hf]
          rw [if_neg hf]
          clear hf HP HA HL
          unfold refSizeR
          obtain ⟨c0, c1, c2, c3, c4, cf⟩ := Five.cells Z8.out
          have f0 := cf 0; have f1 := cf 1; have f2 := cf 2; have f3 := cf 3; have f4 := cf 4; clear cf
          obtain ⟨t0, t1, tf⟩ := T8.out.cells
          have g0 := tf 0; have g1 := tf 1; clear tf
          have K9 : Hid (Kept (fun y => y = w.heap.size ∨ y = w.heap.size + 1) w8 (set2 (set5 w8 w.heap.size (.int .i64 0) (.string ⟨#[]⟩) (.int .i64 0) (.string ⟨#[]⟩) (.slice none 0 0)) (w.heap.size + 1) (.int .i64 4) (.int .i64 0))) := ((Kept.refl _ w8).set5 (.inl (.inl rfl)) _ _ _ _ _).set2 (.inl (.inr rfl)) _ _
          have F9 : Hid (Zero5 w.heap.size (set2 (set5 w8 w.heap.size (.int .i64 0) (.string ⟨#[]⟩) (.int .i64 0) (.string ⟨#[]⟩) (.slice none 0 0)) (w.heap.size + 1) (.int .i64 4) (.int .i64 0))) :=
            Five.kept (Z8.out.set5 _ _ _ _ _) ((Kept.refl (· = w.heap.size + 1) _).set2 (.inl rfl) _ _) ne12
          have T9 : Hid (Two (w.heap.size + 1) (.int .i64 4) (.int .i64 0) (set2 (set5 w8 w.heap.size (.int .i64 0) (.string ⟨#[]⟩) (.int .i64 0) (.string ⟨#[]⟩) (.slice none 0 0)) (w.heap.size + 1) (.int .i64 4) (.int .i64 0))) :=
            (T8.out.kept ((Kept.refl (· = w.heap.size) w8).set5 (.inl rfl) _ _ _ _ _) (fun h => ne12 h.symm)).set2 _ _

          go_wp2_with fail
          exact ret_read rfl rfl rfl F9.out T9.out (read_err hr.out (K8.out.step K9.out (fun y hy => .inr (by omega))))
end Go.Proofs.Ytdnglicgmlldlaa
