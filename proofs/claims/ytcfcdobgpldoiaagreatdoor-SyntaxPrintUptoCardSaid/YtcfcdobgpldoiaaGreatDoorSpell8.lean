/- pats.spell: any right pattern. -/
import Derived.Test.YtcfcdobgpldoiaaGreatDoorSm8
import Derived.Test.YtcfcdobgpldoiaaGreatDoorSpell3
namespace Go.Proofs.YtcfcdobgpldoiaaGreatDoor
set_option linter.all false
open Go.RowKit

theorem spell_all (N T W : Nat) (S : Nat → Prop) : ∀ (m : Nat) (p : PatT) (b o i : Nat) (l : List UInt8) (w : World), sizeT p ≤ m → okT p → SpI N T W S b o p l w → i ≤ 2 → l.length + (showF p i).length ≤ big → SpOk N T W S b o i p l w := by
  intro m
  induction m with
  | zero => intro p b o i l w hm; have := sizeT_pos p; omega
  | succ m ih =>
    intro p b o i l w hm hok h hi hl
    obtain ⟨k, t, n, nm, kids⟩ := p
    have hn := hok.self
    have hkl : kids.length < 1000000000 := by have := h.pat.open.2.1.2.2; simpa using this
    obtain ⟨⟨h1, h24⟩, _⟩ := node_facts hn
    have hih : SpIH N T W S kids := fun j hj b o i l w h hi hl => ih kids[j] b o i l w (by have := sizeT_get kids j hj; simp only [sizeT] at hm; omega) (hok.kids.get j hj) h hi hl
    by_cases c1 : k = 1
    · exact spell_lit N T W S b o i k t n nm kids l w h hn hl c1
    by_cases c2 : isTextK k
    · exact spell_text N T W S b o i k t n nm kids l w h hn hl c2
    by_cases c3 : isNumK k
    · exact spell_num N T W S b o i k t n nm kids l w h hn hl c3
    by_cases c4 : k = 23 ∨ k = 24
    · exact spell_name N T W S b o i k t n nm kids l w h hn hl c4
    by_cases c5 : k = 12 ∨ k = 13 ∨ k = 14 ∨ k = 15 ∨ k = 16 ∨ k = 17
    · exact spell_word N T W S b o i k t n nm kids l w h hn hl c5
    by_cases c6 : k = 20
    · subst c6; exact spell_arbno N T W S b o i t n nm kids l w h hn hl hih
    by_cases c7 : k = 21
    · subst c7; exact spell_cond N T W S b o i t n nm kids l w h hn hl hih
    by_cases c8 : k = 22
    · subst c8; exact spell_imm N T W S b o i t n nm kids l w h hn hl hih
    by_cases c9 : k = 18
    · subst c9
      by_cases hp : i < 1
      · exact spell_catP N T W S b o i t n nm kids l w h hp hkl hl hih
      · exact spell_cat N T W S b o i t n nm kids l w h hp hkl hl hih
    by_cases c10 : k = 19
    · subst c10
      by_cases hp : i < 2
      · exact spell_altP N T W S b o i t n nm kids l w h hp hkl hl hih
      · exact spell_alt N T W S b o i t n nm kids l w h hp hkl hl hih
    · unfold isTextK isNumK at *; omega

/-- What Print answers: the text, and what is wrong. -/
def printF (p : PatT) : List UInt8 × Int := if wrongF p ≠ 0 then ([], wrongF p) else if 65536 < (showF p 2).length then ([], 4) else (showF p 2, 0)
def PrintQ (p : PatT) (w : World) (e : Ending) (w' : World) : Prop := e = .returned (.tuple #[.string ⟨(printF p).1.toArray⟩, .int .i64 (printF p).2]) ∧ Kept Nix w w'
theorem firstF_zero : ∀ (l : List PatT), firstF l = 0 → ∀ x ∈ l, nodeF x = 0
  | [], _, x, hx => by simp at hx
  | p :: r, h, x, hx => by
    rw [firstF] at h
    by_cases hp : nodeF p = 0
    · rcases List.mem_cons.1 hx with rfl | hx
      · exact hp
      · rw [if_pos hp] at h; exact firstF_zero r h x hx
    · rw [if_neg hp] at h; exact absurd h hp
theorem wrong_ok {p : PatT} (h : wrongF p = 0) : okT p ∧ sizeT p ≤ 4096 := by
  rw [wrongF_eq] at h
  by_cases hf : fits p
  · rw [if_pos hf] at h
    exact ⟨firstF_zero _ h, hf.1⟩
  · rw [if_neg hf] at h; cases h
end Go.Proofs.YtcfcdobgpldoiaaGreatDoor
