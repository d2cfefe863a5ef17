/- check.Check; check.may. A program that is right, told by a computation. -/
import Derived.Test.YtlnhcgihpclpaaaGreatDoorPg3
import Derived.Test.YtlnhcgihpclpaaaGreatDoorPs31
namespace Go.Proofs.YtlnhcgihpclpaaaGreatDoor
set_option linter.all false
open Go.RowKit

set_option maxRecDepth 100000 in
set_option maxHeartbeats 2000000 in
theorem check_any (l : List StT) (al : Option Addr) (cl : Nat) (S : Nat → Prop) (w : World) (hl : StsAt w S al l) (hS : Safe S Nix w.heap.size) (hlen : l.length ≤ 1048576) :
    Calls Tryz.prog 10 #[.slice al l.length cl] w (FaultQ (checkF l) w) := by
  obtain ⟨w1, hw1⟩ : ∃ w1, w1 = w.alloc (.cells #[.int .i64 0, .int .i64 0] 30) := ⟨_, rfl⟩
  have k1 : Kept Nix w w1 := by rw [hw1]; exact (Kept.refl Nix w).alloc _
  have F1 : Hid (Fl w.heap.size 0 0 w1) := by rw [hw1]; exact heap_alloc_new w _
  have HP := Lib.hid (program_any l al cl S w1 (hl.to k1 hS (fun _ h => h)) (hS.mono k1.size) hlen)
  have HW1 := Lib.hid hw1; have K1 := Lib.hid k1
  clear hl hS k1 hw1
  obtain ⟨f0, f1, f2, f3⟩ := F1.out.cells
  go_enter Tryz.func10, Tryz.ntmps10
  go_upto_region 1 with fail
  rw [← HW1.out]
  clear HW1 f0 f1 f2 f3
  go_wp2_with (go_at_call 17; (refine HP.out.mono ?_); rintro e w2 ⟨p, rfl, k2_, _, _⟩; have K2 := Lib.hid k2_; have F2 := Lib.hid (F1.out.kept k2_ (fun h => h)); clear k2_; have F3 := Lib.hid (F2.out.kept ((Kept.refl Nix w2).alloc (.cells #[.int .i64 (checkF l).1, .int .i64 ((checkF l).2 : Int)] 30)) (fun h => h)); obtain ⟨f0, f1, f2, f3⟩ := F3.out.cells)
  exact ret_fault rfl rfl (F3.out.set _ _) rfl (((K1.out.trans K2.out).alloc _).step (((Kept.refl (· = w.heap.size) _).setCell (p := ⟨w.heap.size, 0, none⟩) (.inl rfl) _).setCell (p := ⟨w.heap.size, 1, none⟩) (.inl rfl) _) (fun y hy => .inr (by subst hy; exact Nat.le_refl _)))

end Go.Proofs.YtlnhcgihpclpaaaGreatDoor

namespace Go.Proofs.YtlnhcgihpclpaaaGreatDoor
set_option linter.all false
open Go.RowKit

def dupB : List ByteArray → Bool
  | [] => true
  | x :: r => (r.all fun y => decide (y ≠ x)) && dupB r
def ownB (l : List ByteArray) : Bool := (l.all fun x => decide (x.data.toList ≠ [73, 78, 80, 85, 84]) && decide (x.data.toList ≠ [79, 85, 84, 80, 85, 84])) && dupB l
theorem dupB_ne : ∀ (l : List ByteArray), dupB l = true → ∀ a (h : a < l.length) b (hb : b < a), l[a] ≠ l[b]'(by omega)
  | [], _, a, h, _, _ => by simp at h
  | x :: r, hd, a, h, b, hb => by
    rw [dupB, Bool.and_eq_true] at hd
    obtain ⟨a', rfl⟩ : ∃ a', a = a' + 1 := ⟨a - 1, by omega⟩
    have ha : a' < r.length := by simpa using h
    cases b with
    | zero =>
      have := List.all_eq_true.1 hd.1 _ (List.getElem_mem ha)
      simpa using this
    | succ b =>
      have := dupB_ne r hd.2 a' ha b (by omega)
      simpa using this
theorem ownB_ok {l : List ByteArray} (h : ownB l = true) : ownOkP l := by
  unfold ownB at h
  rw [Bool.and_eq_true] at h
  intro a ha
  have h1 := List.all_eq_true.1 h.1 _ (List.getElem_mem ha)
  simp only [Bool.and_eq_true, decide_eq_true_eq] at h1
  exact ⟨by rw [ByteArray.toList_eq]; exact h1.1, by rw [ByteArray.toList_eq]; exact h1.2, fun b hb => dupB_ne l h.2 a ha b hb⟩
def namedB (l : List StT) (i : Nat) (s : StT) : Bool :=
  (decide (s.label.size = 0) || (decide (keptF s.label = false) && decide (labelF l s.label = i))) &&
  (decide (s.kind ≠ 7) || (decide (builtinF s.name < 0) && decide (funcF l s.name = i) && ownB (s.name :: s.params ++ s.locals)))
theorem namedB_ok {l : List StT} {i : Nat} {s : StT} (h : namedB l i s = true) : namedP l i s := by
  unfold namedB at h
  simp only [Bool.and_eq_true, Bool.or_eq_true, decide_eq_true_eq] at h
  refine ⟨h.1, fun hk => ?_⟩
  rcases h.2 with h2 | h2
  · exact absurd hk h2
  · exact ⟨⟨h2.1.1, h2.1.2⟩, ownB_ok h2.2⟩
def wrB (l : List StT) : Bool := l.all fun s => decide (wrongS s = 0)
def nmB (l : List StT) : Nat → List StT → Bool
  | _, [] => true
  | i, s :: r => namedB l i s && nmB l (i + 1) r
def usB (l : List StT) : Bool := l.all fun s => decide (usesF l s = 0)
def checkB (l : List StT) : Bool := decide (l.length ≤ 1000) && wrB l && nmB l 0 l && usB l
theorem wrB_ok : ∀ (l : List StT) (i : Nat), wrB l = true → wrGo i l = none
  | [], _, _ => rfl
  | s :: r, i, h => by
    unfold wrB at h
    rw [List.all_cons, Bool.and_eq_true, decide_eq_true_eq] at h
    rw [wrGo, if_pos h.1]; exact wrB_ok r (i + 1) h.2
theorem nmB_ok (l : List StT) : ∀ (r : List StT) (i : Nat), nmB l i r = true → nmGo l i r = none
  | [], _, _ => rfl
  | s :: r, i, h => by
    rw [nmB, Bool.and_eq_true] at h
    rw [nmGo, if_pos (namedB_ok h.1)]; exact nmB_ok l r (i + 1) h.2
theorem usB_ok (l : List StT) : ∀ (r : List StT) (i : Nat), (r.all fun s => decide (usesF l s = 0)) = true → usGo l i r = none
  | [], _, _ => rfl
  | s :: r, i, h => by
    rw [List.all_cons, Bool.and_eq_true, decide_eq_true_eq] at h
    rw [usGo, if_pos h.1]; exact usB_ok l r (i + 1) h.2
theorem checkB_ok {l : List StT} (h : checkB l = true) : checkF l = (0, 0) ∧ l.length ≤ 1000 := by
  unfold checkB at h
  simp only [Bool.and_eq_true, decide_eq_true_eq] at h
  obtain ⟨⟨⟨h1, h2⟩, h3⟩, h4⟩ := h
  refine ⟨?_, h1⟩
  unfold checkF
  rw [if_neg (by omega), wrB_ok l 0 h2, nmB_ok l l 0 h3, usB_ok l l 0 h4]
  rfl
/-- A text is a program that is right. -/
def progOk (t : ByteArray) : Bool := match readS t with
  | .ok l => checkB l
  | .error _ => false
theorem progOk_ok {t : ByteArray} (h : progOk t = true) : ∃ l, readS t = .ok l ∧ checkF l = (0, 0) ∧ l.length ≤ 1000 := by
  unfold progOk at h
  cases hr : readS t with
  | error e => rw [hr] at h; cases h
  | ok l => rw [hr] at h; exact ⟨l, rfl, checkB_ok h⟩
end Go.Proofs.YtlnhcgihpclpaaaGreatDoor
