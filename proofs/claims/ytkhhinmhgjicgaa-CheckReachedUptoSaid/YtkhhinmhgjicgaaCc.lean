/- slices.Grow of nil, slices.Concat of two lists of texts. -/
import Derived.Test.YtkhhinmhgjicgaaTw
import Derived.Lib.AppendZerosOnto
namespace Go.Proofs.Ytkhhinmhgjicgaa
set_option linter.all false
open Go.RowKit

def ChQ (n : Nat) (xs : List Value) (w : World) (e : Ending) (w' : World) : Prop := ∃ v, e = .returned v ∧ Ch w' w.heap.size n xs v ∧ Kept Nix w w'
theorem growNil (w : World) (k : Nat) (h0 : 0 < k) (hk : k ≤ 4000000000) : ∃ cap w', (Builtin.append_ #[39, 3] 39 #[.slice none 0 0, .int .i64 (k : Int)]).run Try.prog w = .ok (.slice (some ⟨w.heap.size, 0, none⟩) k cap) w' ∧
    Kept Nix w w' ∧ Ch w' w.heap.size 0 [] (.slice (some ⟨w.heap.size, 0, none⟩) 0 cap) ∧ k ≤ cap ∧ cap ≤ maxLen := by
  obtain ⟨i0, hi0, hz0, hz1, hz2⟩ := info_parts infoStr
  have h := Lib.run_append_grow_zeros (P := Try.prog) w 39 3 39 9 i0 (.string ⟨#[]⟩) .i64 .i64 Try.underlying39 Try.underlying3 hi0 hz0 none 0 0 [] (by simp [Builtin.firstCells]) k h0 (by rw [hz1]; decide) (by omega) (by omega) (by rw [hz2]; omega) (growslice_fits (by omega) (by rw [hz2]; omega))
  rw [Nat.zero_add] at h
  have hge := grownCap_ge w k 0 9
  have hcm : grownCap w k 0 9 ≤ maxLen := grownCap_le_maxLen w k 0 9 (by unfold maxLen; omega)
  refine ⟨_, _, h, ((Kept.refl Nix w).drew).alloc _, ⟨_, _, rfl, by simp, .inr ⟨w.heap.size, 0, _, _, rfl, Nat.le_refl _, heap_alloc_new w.drew _, Nat.zero_le _, hcm, ?_, by simp⟩⟩, hge, hcm⟩
  rw [Array.size_append, Array.size_append, List.size_toArray, size_zeroCells, size_zeroCells]
  have hzs : (Value.string ⟨#[]⟩).cells.size = 1 := rfl
  rw [hzs]
  simp only [List.length_nil]
  omega

theorem wpList_grow {w : World} {ops : Array Oper} {rest : List Oper} {o : Oper} {a : Act} {Q : Exit → Act → World → Prop} (hgd : o.guard = none) (s x : Operand) (hty : o.type = 39)
    (ho : o.op = .call { callee := .builtin .append, args := #[s, x], argTypes := #[39, 3] }) (hs : a.eval s = .slice none 0 0) (k : Nat) (hx : a.eval x = .int .i64 (k : Int)) (h0 : 0 < k) (hk : k ≤ 4000000000)
    (h : ∀ b cap w', Kept Nix w w' → Ch w' w.heap.size 0 [] (.slice (some ⟨b, 0, none⟩) 0 cap) → k ≤ cap → cap ≤ maxLen → wpList Try.prog ops Q rest (a.put o.dst (.slice (some ⟨b, 0, none⟩) k cap)) w') : wpList Try.prog ops Q (o :: rest) a w := by
  refine wpList_plain hgd fun _ hK => ?_
  obtain ⟨cap, w', hr, h1, h2, h3, h4⟩ := growNil w k h0 hk
  unfold Oper.wp execOp
  simp only [ho, hty, resolve, invoke, builtin, Sem.run_bind, Sem.run_pure, Result.andThen_ok, List.map_toArray, List.map_cons, List.map_nil, hs, hx, hr]
  exact hK _ _ (h _ cap w' h1 h2 h3 h4)
set_option maxRecDepth 100000 in
theorem grow_any (k : Nat) (w : World) (hk : k ≤ 4000000000) : Calls Try.prog 45 #[.slice none 0 0, .int .i64 (k : Int)] w (ChQ 0 [] w) := by
  have e1 : decide ((k : Int) < 0) = false := decide_eq_false (by omega)
  have hwr : IntKind.i64.wrap (k : Int) = k := IntWalk.i64_in _ (by omega)
  by_cases h0 : k = 0
  · subst h0
    go_enter Try.func45, Try.ntmps45
    go_wp2_with fail
    go_ret
    exact ⟨.slice none 0 0, rfl, ⟨_, _, rfl, Win.nil ..⟩, Kept.refl _ _⟩
  · have hp : 0 < k := by omega
    have e3 : decide (0 < k) = true := decide_eq_true hp
    have e2 : decide ((0 : Int) < (k : Int)) = true := decide_eq_true (by omega)
    clear h0
    go_enter Try.func45, Try.ntmps45
    go_wp2_with (at_builtin; go_loud (refine wpList_grow rfl _ _ rfl rfl rfl k rfl hp hk ?_); rintro b cap w' k1_ c1_ hkc hcm; have HK := Lib.hid k1_; have HC := Lib.hid c1_; clear k1_ c1_)
    go_ret
    exact ⟨_, rfl, HC.out, HK.out⟩

set_option maxRecDepth 100000 in
set_option maxHeartbeats 1000000 in
theorem concat_any (b : Nat) (p q : List ByteArray) (pa la : Option Addr) (pc lc : Nat) (S : Nat → Prop) (w : World) (h0 : w.cell? ⟨b, 0, none⟩ = some (.slice pa p.length pc)) (h1 : w.cell? ⟨b, 1, none⟩ = some (.slice la q.length lc)) (hb : b < w.heap.size)
    (hp : StrsAt w S pa p) (hq : StrsAt w S la q) (hS : Safe S Nix w.heap.size) (hpl : p.length ≤ 1000000000) (hql : q.length ≤ 1000000000) :
    Calls Try.prog 27 #[.slice (some ⟨b, 0, none⟩) 2 2] w (ChQ (p.length + q.length) (p.map Value.string ++ q.map Value.string) w) := by
  have HP := Lib.hid hp; have HQ := Lib.hid hq; have HS := Lib.hid hS
  clear hp hq hS
  have w1 : IntKind.i64.wrap ((p.length : Int)) = p.length := IntWalk.i64_in _ (by omega)
  have w2 : IntKind.i64.wrap ((p.length : Int) + q.length) = ((p.length + q.length : Nat) : Int) := IntWalk.i64_in _ (by omega)
  have e1 : decide ((p.length : Int) < 0) = false := decide_eq_false (by omega)
  have e2 : decide (((p.length + q.length : Nat) : Int) < 0) = false := decide_eq_false (by omega)
  obtain ⟨i0, hi0, hz0, hz1, hz2⟩ := info_parts infoStr
  go_enter Try.func27, Try.ntmps27
  go_wp2_with fail
  go_loop [11, 3] (fun i s => (i = .int .i64 0 ∧ s = .int .i64 0) ∨ (i = .int .i64 1 ∧ s = .int .i64 p.length) ∨ (i = .int .i64 2 ∧ s = .int .i64 (p.length + q.length : Nat))) (fun i s => 2 - (intOf i).toNat)
  case atStart => exact .inl ⟨rfl, rfl⟩
  case round =>
    rcases hrel with ⟨rfl, rfl⟩ | ⟨rfl, rfl⟩ | ⟨rfl, rfl⟩
    · go_wp2_with fail
      go_round
      case rel => exact .inr (.inl ⟨rfl, rfl⟩)
      case measure => simp [intOf]
    · go_wp2_with fail
      go_round
      case rel => exact .inr (.inr ⟨rfl, rfl⟩)
      case measure => simp [intOf]
    · have HG := Lib.hid (grow_any (p.length + q.length) w (by omega))
      go_wp2_with (go_at_call 45; (refine HG.out.mono ?_); rintro e w3 ⟨v3, rfl, ⟨a3, c3, rfl, hw3⟩, k3_⟩; have W3 := Lib.hid hw3; have K3 := Lib.hid k3_; clear hw3 k3_)
      go_loopw [27, 6] (fun i v w' => (i = .int .i64 0 ∧ Ch w' w.heap.size 0 [] v ∧ Kept Nix w w') ∨ (i = .int .i64 1 ∧ Ch w' w.heap.size p.length (p.map Value.string) v ∧ Kept Nix w w') ∨ (i = .int .i64 2 ∧ Ch w' w.heap.size (p.length + q.length) (p.map Value.string ++ q.map Value.string) v ∧ Kept Nix w w')) (fun i _ _ => 2 - (intOf i).toNat)
      case atStart => exact .inl ⟨rfl, ⟨a3, c3, rfl, W3.out⟩, K3.out⟩
      case round =>
        rcases hrel with ⟨rfl, ⟨a4, c4, rfl, hw4⟩, hk4⟩ | ⟨rfl, ⟨a4, c4, rfl, hw4⟩, hk4⟩ | ⟨rfl, ⟨a4, c4, rfl, hw4⟩, hk4⟩
        · have x0 : wr.cell? ⟨b, 0, none⟩ = some (.slice pa p.length pc) := (hk4.cell hb (fun h => h)).trans h0
          have SR := Lib.hid (strs_src (HP.out.to hk4 HS.out (fun _ h => h)) pc)
          have WV := Lib.hid hw4; have KV := Lib.hid hk4
          have hb4 := hk4.size
          clear hw4 hk4
          go_wp2_with (at_builtin; go_loud (refine wpList_append_win _ rfl (.tmp 31) (.tmp 32) 39 39 rfl w.heap.size 9 i0 (.string ⟨#[]⟩) 1 16 Try.underlying39 hi0 hz0 hz1 hz2 rfl _ 0 [] rfl WV.out _ p.length (p.map Value.string) rfl SR.out (by unfold maxLen; omega) (by omega) hb4 ?_); intro a5 c5 w5 hW5 hg5 _; have K5 := Lib.hid (KV.out.grown hg5 fun k hk => .inr (WV.out.lt k hk).1))
          go_roundw
          case rel => exact .inr (.inl ⟨rfl, ⟨a5, c5, rfl, by first | exact hW5 | (rw [Nat.zero_add] at hW5; exact hW5)⟩, K5.out⟩)
          case measure => simp [intOf]
        · have x0 : wr.cell? ⟨b, 1, none⟩ = some (.slice la q.length lc) := (hk4.cell hb (fun h => h)).trans h1
          have SR := Lib.hid (strs_src (HQ.out.to hk4 HS.out (fun _ h => h)) lc)
          have WV := Lib.hid hw4; have KV := Lib.hid hk4
          have hb4 := hk4.size
          clear hw4 hk4
          go_wp2_with (at_builtin; go_loud (refine wpList_append_win _ rfl (.tmp 31) (.tmp 32) 39 39 rfl w.heap.size 9 i0 (.string ⟨#[]⟩) 1 16 Try.underlying39 hi0 hz0 hz1 hz2 rfl _ p.length (p.map Value.string) rfl WV.out _ q.length (q.map Value.string) rfl SR.out (by unfold maxLen; omega) (by omega) hb4 ?_); intro a5 c5 w5 hW5 hg5 _; have K5 := Lib.hid (KV.out.grown hg5 fun k hk => .inr (WV.out.lt k hk).1))
          go_roundw
          case rel => exact .inr (.inr ⟨rfl, ⟨a5, c5, rfl, hW5⟩, K5.out⟩)
          case measure => simp [intOf]
        · have fin : Hid (ChQ (p.length + q.length) (p.map Value.string ++ q.map Value.string) w (.returned (.slice a4 (p.length + q.length) c4)) wr) := ⟨_, rfl, ⟨a4, c4, rfl, hw4⟩, hk4⟩
          go_wp2_with fail
          go_ret
          exact fin.out
end Go.Proofs.Ytkhhinmhgjicgaa
