import Derived.Test.YtdkpdomggbiolaaWrong
namespace Go.Proofs.Ytdkpdomggbiolaa
set_option linter.all false
open Go.RowKit

def wrongStep (_ : Int) (p : PatT) (_ : Nat) : Int × Bool := (nodeF p, nodeF p == 0)
def WrongI (c : Nat) (e : Int) (w : World) : Prop := Cel w c 27 (.int .i64 e)

set_option maxRecDepth 100000 in
set_option maxHeartbeats 400000 in
theorem wrong1_any (c : Nat) (st : Int) (p : PatT) (b o d : Nat) (S : Nat → Prop) (w : World) (hI : WrongI c st w) (hp : PatAt w S b o p) :
    Calls Try.prog 30 #[.pointer (some ⟨b, o, none⟩), .int .i64 (d : Nat), .pointer (some ⟨c, 0, none⟩)] w
      (WalkPost (WrongI c) (· = c) (wrongStep st p d) w) := by
  have q1 := hI.cell; have f1 := hI.free
  have K : ∀ u, u = nodeF p → WalkPost (WrongI c) (· = c) (wrongStep st p d) w (.returned (.bool (u == 0))) (w.setCell ⟨c, 0, none⟩ (.int .i64 u)) := by
    rintro u rfl; exact ⟨rfl, hI.set _, (Kept.refl _ w).setCell (.inl (by simp)) _⟩
  have HK := Lib.hid K; clear K
  clear hI
  go_enter Try.func30, Try.ntmps30
  go_wp2_with fail
  refine (wrong_any p b o S _ hp).mono ?_
  rintro e w1 ⟨rfl, rfl⟩
  go_wp2_with fail
  go_ret
  exact HK.out _ rfl

/-- What is wrong with a pattern, as the program finds it. -/
def wrongF (p : PatT) : Int := if (walkF sizeStep (0, 0) p 1).2 then (walkF wrongStep 0 p 1).1 else 4

set_option maxRecDepth 100000 in
set_option maxHeartbeats 400000 in
theorem Wrong_any (p : PatT) (v : Value) (w : World) (hp : PatV w (· < w.heap.size) v p) (hsz : sizeT p ≤ 100000000) :
    Calls Try.prog 9 #[v] w (fun e w' => e = .returned (.int .i64 (wrongF p)) ∧ Kept Nix w w') := by
  obtain ⟨c, hv, hb⟩ := hp.box 25 (fun b hb => hb)
  have hp0 := hp
  obtain ⟨ka, cap, rfl, hz, hk⟩ := hp
  simp only [Value.agg.injEq] at hv; subst hv
  have hmf : ∀ (fn : Fn) (first cap : Array Value) (w : World), (Instr.makeFunc fn first cap).run Try.prog w = .ok (.func fn first cap) w := fun _ _ _ _ => rfl
  go_enter Try.func9, Try.ntmps9
  go_wp2_with fail
  refine (size_any p _ _ ⟨ka, cap, rfl, hz, PatsAt.same (fun b hb => Below.heap_alloc _ _ _ hb) (fun b hb => by simp; omega) _ _ hk⟩ hsz).mono ?_
  rintro e w1 ⟨rfl, hk1⟩
  have HK1 : Hid (Kept Nix w w1) := ((Kept.refl Nix w).alloc _).quiet hk1
  have hb1 := hb.kept hk1 (fun b hb => ⟨by simp; omega, fun h => h⟩)
  have hsz1 : w.heap.size + 1 ≤ w1.heap.size := by have := hk1.size; simpa using this
  clear hk hp0 hb hk1
  cases hr : walkF sizeStep (0, 0) p 1 with
  | mk st ok =>
  obtain ⟨n, d⟩ := st
  have e1 : sizeF p = sizeR ((n, d), ok) := by simp [sizeF, hr]
  cases ok with
  | false =>
    have Hf : Hid (wrongF p = 4) := by simp [wrongF, hr, Hid]
    rw [e1]; clear hr e1
    dsimp only [sizeR]
    go_wp2_with fail
    go_ret
    exact ⟨ret_int Hf.out.symm, HK1.out⟩
  | true =>
    have Hf : Hid (wrongF p = (walkF wrongStep 0 p 1).1) := by simp [wrongF, hr, Hid]
    rw [e1]; clear hr e1
    dsimp only [sizeR]
    go_wp2_with fail
    refine (walk_any 30 #[.pointer (some ⟨w1.heap.size, 0, none⟩)] (fun _ _ => by kernel_rfl) (WrongI w1.heap.size) (fun _ _ => True) wrongStep
      (fun _ _ _ _ _ _ => trivial) (· = w1.heap.size) (fun b => b < w.heap.size ∨ b = w.heap.size) 500000000 (by omega) ?cl 100000000 p 0 0 w.heap.size 0 1 _ hsz (by omega) ?i trivial ?pt ?sf).mono ?_
    case cl =>
      intro _ st p b o d w' hi _ hp' _ hd
      exact wrong1_any _ st p b o d _ w' hi hp'
    case i => exact Cel.new' rfl
    case pt => exact PatAt.same (fun b hb => by rw [Below.heap_alloc]; omega) (fun _ h => h) _ _ _ hb1
    case sf => intro b hb; simp; omega
    rintro e w2 ⟨rfl, hI2, hk2⟩
    have HK2 : Hid (Kept Nix w w2) := (HK1.out.alloc _).step hk2 (by simp; omega)
    have q1 := hI2.cell; have f1 := hI2.free
    clear hb1 hk2 hI2
    go_wp2_with fail
    go_ret
    exact ⟨ret_int Hf.out.symm, HK2.out⟩
end Go.Proofs.Ytdkpdomggbiolaa
