/- PatsTurn in plain words: what Read answers, and why both halves hold. -/
import Derived.Test.YtdnglicgmlldlaaDoorTm4
import Derived.Test.YtdnglicgmlldlaaDoorSpell8
import Derived.Test.YtdnglicgmlldlaaDoorRd17
namespace Go.Proofs.YtdnglicgmlldlaaDoor
open Go.RowKit

/-- What Read answers: the pattern (an empty one at a fault), and the fault. -/
def readQ (s : ByteArray) : PatT × Er := match readP s with | .ok p => (p, (0, 0)) | .error er => (.mk 0 E0 0 E0 [], er)
def ReadV (s : ByteArray) (w : World) (e : Ending) (w' : World) : Prop := Kept Nix w w' ∧ ∃ v, e = .returned (.tuple #[v, faultV (readQ s).2]) ∧ patVal w.heap.size (readQ s).1 w' v
theorem read_v {s : ByteArray} {w w' : World} {e : Ending} (h : ReadPost s w e w') : ReadV s w e w' := by
  obtain ⟨k, h⟩ := h
  refine ⟨k, ?_⟩
  unfold readQ
  cases hr : readP s with
  | ok p => rw [hr] at h; exact h
  | error er =>
    rw [hr] at h
    exact ⟨zeroV, h, Nix, fun b hb => hb.elim, none, 0, rfl, ⟨by show E0.size < _; decide, by show E0.size < _; decide, by show 0 < _; decide⟩, by unfold PatsAt; trivial⟩
theorem readQ_sz (s : ByteArray) : sizeT (readQ s).1 ≤ 200000 := by
  unfold readQ readP
  by_cases hl : 65536 < s.size
  · rw [if_pos hl]; dsimp only; simp [sizeT, sizeL]
  · rw [if_neg hl]
    cases ha : altP (innerP s 200) s 0 with
    | error e => dsimp only; simp [sizeT, sizeL]
    | ok y =>
      obtain ⟨p, k⟩ := y
      have := (read_sz (by omega) ha).1
      dsimp only
      by_cases h1 : 0 ≤ peek s (skip s k)
      · rw [if_pos h1]; dsimp only; simp [sizeT, sizeL]
      · rw [if_neg h1]
        by_cases h2 : fits p
        · rw [if_pos h2]; exact this
        · rw [if_neg h2]; dsimp only; simp [sizeT, sizeL]
theorem readQ_ok {s : ByteArray} {p : PatT} (h : readP s = .ok p) : readQ s = (p, (0, 0)) := by unfold readQ; rw [h]
theorem readQ_zero {s : ByteArray} (h : (readQ s).2.1 = 0) : readP s = .ok (readQ s).1 ∧ (readQ s).2 = (0, 0) := by
  unfold readQ at h ⊢
  cases hr : readP s with
  | ok p => exact ⟨rfl, rfl⟩
  | error er => rw [hr] at h; exact absurd h (nz_read s er hr)
theorem firstF_of : ∀ (l : List PatT), (∀ x ∈ l, nodeF x = 0) → firstF l = 0
  | [], _ => by rw [firstF]
  | p :: r, h => by
    rw [firstF, if_pos (h p (List.mem_cons_self ..))]
    exact firstF_of r fun x hx => h x (List.mem_cons_of_mem _ hx)
theorem wrong_fits {p : PatT} (h : wrongF p = 0) : fits p := by
  rw [wrongF_eq] at h
  by_cases hf : fits p
  · exact hf
  · rw [if_neg hf] at h; cases h
theorem wrong_of {p : PatT} (h : okT p) (hf : fits p) : wrongF p = 0 := by
  rw [wrongF_eq, if_pos hf]
  exact firstF_of _ h
/-- What Print says is all of the text, where it says that it is right. -/
theorem print_zero {p : PatT} (h : (printF p).2 = 0) : wrongF p = 0 ∧ (showF p 2).length ≤ 65536 ∧ (printF p).1 = showF p 2 := by
  unfold printF at h ⊢
  by_cases hw : wrongF p ≠ 0
  · rw [if_pos hw] at h; exact absurd h hw
  · rw [if_neg hw] at h ⊢
    by_cases hl : 65536 < (showF p 2).length
    · rw [if_pos hl] at h; cases h
    · rw [if_neg hl]; exact ⟨by simpa using hw, by omega, rfl⟩
/-- The first half: what is written is read, and has what its kinds have. -/
theorem turn_first {p : PatT} (h : (printF p).2 = 0) : readQ ⟨(printF p).1.toArray⟩ = (bareT p, (0, 0)) := by
  obtain ⟨h1, h2, h3⟩ := print_zero h
  rw [h3]
  exact readQ_ok (read_written p (wrong_ok h1).1 (wrong_fits h1) h2)
/-- The second half: what is read is right. -/
theorem turn_right {s : ByteArray} (h : (readQ s).2.1 = 0) : wrongF (readQ s).1 = 0 ∧ bareT (readQ s).1 = (readQ s).1 := by
  obtain ⟨a, b, c⟩ := read_right (readQ_zero h).1
  exact ⟨wrong_of a b, c⟩
theorem print_much {p : PatT} (h : wrongF p = 0) (hn : (printF p).2 ≠ 0) : (printF p).2 = 4 := by
  unfold printF at hn ⊢
  rw [if_neg (by simp [h])] at hn ⊢
  by_cases hl : 65536 < (showF p 2).length
  · rw [if_pos hl]
  · rw [if_neg hl] at hn; exact absurd rfl hn
theorem turn_again {s : ByteArray} (h : (readQ s).2.1 = 0) (hp : (printF (readQ s).1).2 = 0) : readQ ⟨(printF (readQ s).1).1.toArray⟩ = ((readQ s).1, (0, 0)) := by
  rw [turn_first hp, (turn_right h).2]
theorem printF_size (p : PatT) : (⟨(printF p).1.toArray⟩ : ByteArray).size ≤ 65536 := by
  show (printF p).1.toArray.size ≤ _
  rw [List.size_toArray]
  unfold printF
  by_cases hw : wrongF p ≠ 0
  · rw [if_pos hw]; simp
  · rw [if_neg hw]
    by_cases hl : 65536 < (showF p 2).length
    · rw [if_pos hl]; simp
    · rw [if_neg hl]; dsimp only; omega
theorem alive_q : readQ ⟨#[39, 97, 39, 32, 124, 32, 76, 69, 78, 40, 50, 41, 32, 46, 32, 88]⟩ = (aliveT, (0, 0)) := readQ_ok alive_read
end Go.Proofs.YtdnglicgmlldlaaDoor
