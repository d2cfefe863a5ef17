import Derived.Test.YtdkpdomggbiolaaWalk
namespace Go.Proofs.Ytdkpdomggbiolaa
set_option linter.all false
open Go.RowKit

def sizeStep (st : Nat × Nat) (_ : PatT) (d : Nat) : (Nat × Nat) × Bool :=
  ((st.1 + 1, max st.2 d), decide (st.1 + 1 ≤ 4096) && decide (d ≤ 200))

def SizeI (c1 c2 : Nat) (st : Nat × Nat) (w : World) : Prop := Cel w c1 3 (.int .i64 st.1) ∧ Cel w c2 3 (.int .i64 st.2)

theorem size1_fin {c1 c2 n k d : Nat} {p : PatT} {w : World} (hne : c1 ≠ c2) (h1 : Cel w c1 3 (.int .i64 n)) (h2 : Cel w c2 3 (.int .i64 k)) {u : Bool} {v : Int}
    (hu : u = (decide (n + 1 ≤ 4096) && decide (d ≤ 200))) (hv : v = (max k d : Nat)) :
    WalkPost (SizeI c1 c2) (fun b => b = c1 ∨ b = c2) (sizeStep (n, k) p d) w (.returned (.bool u)) ((w.setCell ⟨c1, 0, none⟩ (.int .i64 ((n : Int) + 1))).setCell ⟨c2, 0, none⟩ (.int .i64 v)) := by
  subst hu hv
  refine ⟨rfl, ⟨?_, (h2.other hne.symm _).set _⟩, ((Kept.refl _ w).setCell (.inl (by simp)) _).setCell (.inl (by simp)) _⟩
  simpa [sizeStep] using (h1.set (.int .i64 ((n : Int) + 1))).other (o := 0) hne (.int .i64 (max k d : Nat))

set_option maxRecDepth 100000 in
set_option maxHeartbeats 400000 in
theorem size1_any (c1 c2 : Nat) (hne : c1 ≠ c2) (st : Nat × Nat) (p : PatT) (a : Value) (d : Nat) (w : World)
    (hI : SizeI c1 c2 st w) (hd : d < 1000000000) (hs : st.1 ≤ 4096) :
    Calls Try.prog 48 #[a, .int .i64 (d : Nat), .pointer (some ⟨c1, 0, none⟩), .pointer (some ⟨c2, 0, none⟩)] w
      (WalkPost (SizeI c1 c2) (fun b => b = c1 ∨ b = c2) (sizeStep st p d) w) := by
  obtain ⟨n, k⟩ := st
  obtain ⟨h1, h2⟩ := hI
  dsimp only at h1 h2 hs
  have q1 := h1.cell; have q2 := h2.cell; have f1 := h1.free; have f2 := h2.free
  have H1 := Lib.hid h1; have H2 := Lib.hid h2; clear h1 h2
  go_enter Try.func48, Try.ntmps48
  go_wp2
  all_goals
    go_ret
    exact size1_fin hne H1.out H2.out (by first | (rw [decide_eq_true (show n + 1 ≤ 4096 from by omega), Bool.true_and]; exact decide_eq_decide.2 (by omega)) | rw [decide_eq_false (show ¬ n + 1 ≤ 4096 from by omega), Bool.false_and]) (by omega)

theorem PatV.box {w : World} {S : Nat → Prop} {v : Value} {p : PatT} (h : PatV w S v p) (t : TypeId) (hS : ∀ b, S b → b < w.heap.size) :
    ∃ c, v = .agg c ∧ PatAt (w.alloc (.cells c t)) (fun b => S b ∨ b = w.heap.size) w.heap.size 0 p := by
  obtain ⟨k, tx, n, nm, kids⟩ := p
  obtain ⟨ka, cap, rfl, hz, hk⟩ := h
  dsimp only [PatT.kind, PatT.text, PatT.n, PatT.name, PatT.kids] at hk hz
  refine ⟨_, rfl, ?_⟩
  unfold PatAt
  refine ⟨.inr rfl, hz, by simp, by simp, by simp, by simp, ka, cap, by simp, ?_⟩
  exact PatsAt.same (fun b hb => Below.heap_alloc _ _ _ (hS b hb)) (fun b hb => .inl hb) kids ka hk

def sizeR (r : (Nat × Nat) × Bool) : Value := if r.2 then .tuple #[.int .i64 r.1.1, .int .i64 r.1.2, .int .i64 0] else .tuple #[.int .i64 0, .int .i64 0, .int .i64 4]
def sizeF (p : PatT) : Value := sizeR (walkF sizeStep (0, 0) p 1)

set_option maxRecDepth 100000 in
set_option maxHeartbeats 400000 in
theorem size_any (p : PatT) (v : Value) (w : World) (hp : PatV w (· < w.heap.size) v p) (hsz : sizeT p ≤ 100000000) :
    Calls Try.prog 28 #[v] w (fun e w' => e = .returned (sizeF p) ∧ Kept Nix w w') := by
  obtain ⟨c, rfl, hb⟩ := hp.box 25 (fun b hb => hb)
  have hmf : ∀ (fn : Fn) (first cap : Array Value) (w : World), (Instr.makeFunc fn first cap).run Try.prog w = .ok (.func fn first cap) w := fun _ _ _ _ => rfl
  go_enter Try.func28, Try.ntmps28
  go_wp2_with fail
  refine (walk_any 48 #[.pointer (some ⟨w.heap.size + 1, 0, none⟩), .pointer (some ⟨w.heap.size + 1 + 1, 0, none⟩)] (fun _ _ => by kernel_rfl) (SizeI (w.heap.size + 1) (w.heap.size + 1 + 1)) (fun _ st => st.1 ≤ 4096) sizeStep
    (fun _ st p d _ h => by simp [sizeStep] at h ⊢; omega) (fun b => b = w.heap.size + 1 ∨ b = w.heap.size + 1 + 1) (fun b => b < w.heap.size ∨ b = w.heap.size) 500000000 (by omega) ?cl 100000000 p 0 (0, 0) w.heap.size 0 1 _ hsz (by omega) ?i (by simp) ?pt ?sf).mono ?_
  case cl =>
    intro _ st p b o d w' hi hg _ _ hd
    exact size1_any _ _ (by omega) st p _ d w' hi (by omega) hg
  case i => exact ⟨(Cel.new' (by simp)).alloc _, Cel.new' (by simp)⟩
  case pt => exact PatAt.same (fun b hb => by rw [Below.heap_alloc, Below.heap_alloc] <;> simp <;> omega) (fun _ h => h) _ _ _ hb
  case sf => intro b hb; simp; omega
  rintro e w1 ⟨rfl, hI1, hk1⟩
  obtain ⟨h1, h2⟩ := hI1
  have hK : Kept Nix w w1 := (((Kept.refl Nix w).alloc _).alloc _).alloc _ |>.step hk1 (by simp; omega)
  have q1 := h1.cell; have q2 := h2.cell; have f1 := h1.free; have f2 := h2.free
  have HK := Lib.hid hK; clear hK hk1 hb hp h1 h2
  cases hr : walkF sizeStep (0, 0) p 1 with
  | mk st ok =>
  obtain ⟨n, d⟩ := st
  have Hr : Hid (sizeF p = sizeR ((n, d), ok)) := by simp [sizeF, hr, Hid]
  rw [hr] at q1 q2; clear hr
  dsimp only at q1 q2
  have K1 : ∀ a b, Kept Nix w ((w1.setCell ⟨w.heap.size + 1, 0, none⟩ a).setCell ⟨w.heap.size + 1 + 1, 0, none⟩ b) := fun a b => (HK.out.setCell (.inr (by simp)) _).setCell (.inr (by simp; omega)) _
  have HK1 := Lib.hid K1; clear K1
  cases ok with
  | true =>
    go_wp2_with fail
    go_region
    all_goals go_wp2
    all_goals exact bodyPost_ret (v := .tuple #[.int .i64 n, .int .i64 d, .int .i64 0]) (by simp [results, Try.results28, go_sem, q1, q2]) rfl ⟨by rw [Hr.out]; rfl, by first | exact (HK1.out _ _).drew | exact (HK1.out _ _)⟩
  | false =>
    go_wp2_with fail
    exact bodyPost_ret (v := .tuple #[.int .i64 0, .int .i64 0, .int .i64 4]) (by simp [results, Try.results28, go_sem, q1, q2]) rfl ⟨by rw [Hr.out]; rfl, by first | exact (HK1.out _ _).drew | exact (HK1.out _ _)⟩
end Go.Proofs.Ytdkpdomggbiolaa
