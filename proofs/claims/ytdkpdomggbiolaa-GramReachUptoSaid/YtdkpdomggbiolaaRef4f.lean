/- The reference of chapter 4: Names and SameTexts. -/
import Derived.Test.YtdkpdomggbiolaaRef4e
import Derived.Test.YtdkpdomggbiolaaPut
namespace Go.Proofs.Ytdkpdomggbiolaa
set_option linter.all false
open Go.RowKit

def isGift (k : Int) : Prop := k = 21 ∨ k = 22 ∨ k = 23
instance (k : Int) : Decidable (isGift k) := by unfold isGift; exact inferInstance
theorem gifts_list (k : Int) : ([21, 22, 23] : List Int).contains k = decide (isGift k) := by
  rw [Bool.eq_iff_iff, decide_eq_true_eq]; unfold isGift; simp
theorem In_gifts (k : Int) (b : Nat) (w : World) (hb : b = w.heap.size) :
    Calls Try.prog 62 #[.int .i64 k, .slice (some ⟨b, 0, none⟩) 3 3] (w.alloc (.cells #[.int .i64 21, .int .i64 22, .int .i64 23] 3)) (BoolQ (decide (isGift k)) w) := by
  subst hb
  refine (In_any k [21, 22, 23] _ (gifts_list k) w.heap.size 3 3 (0, 0) _ (heap_alloc_new w _) (by decide)).mono ?_
  rintro e w' ⟨rfl, rfl⟩
  exact ⟨rfl, (Kept.refl _ _).alloc _⟩

def nfStep (st : List ByteArray × List ByteArray) (p : PatT) : List ByteArray × List ByteArray :=
  (if isGift p.kind then putL st.1 p.name else st.1, if p.kind = 24 then putL st.2 p.name else st.2)
def namesFold (l : List PatT) : List ByteArray × List ByteArray := l.foldl nfStep ([], [])
theorem putL_length (l : List ByteArray) (s : ByteArray) : (putL l s).length ≤ l.length + 1 := by
  have := ahead_le l s
  unfold putL; split
  · omega
  · simp; omega
theorem nf_length (l : List PatT) : (namesFold l).1.length ≤ l.length ∧ (namesFold l).2.length ≤ l.length := by
  unfold namesFold
  have : ∀ (l : List PatT) (st : List ByteArray × List ByteArray), (l.foldl nfStep st).1.length ≤ st.1.length + l.length ∧ (l.foldl nfStep st).2.length ≤ st.2.length + l.length := by
    intro l; induction l with
    | nil => intro st; simp
    | cons p ps ih =>
      intro st
      have h := ih (nfStep st p)
      have h1 : (nfStep st p).1.length ≤ st.1.length + 1 := by unfold nfStep; dsimp only; split; exact putL_length _ _; omega
      have h2 : (nfStep st p).2.length ≤ st.2.length + 1 := by unfold nfStep; dsimp only; split; exact putL_length _ _; omega
      rw [List.foldl_cons, List.length_cons]; omega
  have := this l ([], []); simpa using this
theorem nf_take (l : List PatT) (j : Nat) (hj : j < l.length) : namesFold (l.take (j + 1)) = nfStep (namesFold (l.take j)) l[j] := by
  unfold namesFold; rw [List.take_succ_eq_append_getElem hj, List.foldl_append]; rfl

structure RefNamesOut (g c : List ByteArray) (w : World) (v : Value) (w' : World) : Prop where
  out : ∃ v1 v2, v = .tuple #[v1, v2, .int .i64 0] ∧ PutV w' (fun b => w.heap.size ≤ b ∧ b < w'.heap.size) v1 g ∧ PutV w' (fun b => w.heap.size ≤ b ∧ b < w'.heap.size) v2 c
def RefNamesPost (p : PatT) (w : World) (e : Ending) (w' : World) : Prop :=
  Kept Nix w w' ∧ if refWrongR p = 0 then ∃ v, e = .returned v ∧ RefNamesOut (namesFold (allT p)).1 (namesFold (allT p)).2 w v w' else e = .returned (.tuple #[.slice none 0 0, .slice none 0 0, .int .i64 (refWrongR p)])
theorem PutV.mono {w w' : World} {B : Nat} {v : Value} {l : List ByteArray} (h : PutV w (fun b => B ≤ b ∧ b < w.heap.size) v l) (hk : Kept Nix w w') : PutV w' (fun b => B ≤ b ∧ b < w'.heap.size) v l := by
  rcases h with h | ⟨h0, b, o, cap, e, h1, h2, hb, hc⟩
  · exact .inl h
  · exact .inr ⟨h0, b, o, cap, e, h1, h2, ⟨hb.1, Nat.lt_of_lt_of_le hb.2 hk.size⟩, fun i hi => (hk.cell hb.2 (fun h => h)).trans (hc i hi)⟩
theorem PutV.shape {w : World} {S : Nat → Prop} {v : Value} {l : List ByteArray} (h : PutV w S v l) : ∃ a cap, v = .slice a l.length cap := by
  rcases h with ⟨rfl, rfl⟩ | ⟨_, b, o, cap, rfl, _⟩
  · exact ⟨_, _, rfl⟩
  · exact ⟨_, _, rfl⟩

end Go.Proofs.Ytdkpdomggbiolaa
