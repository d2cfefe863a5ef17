/- pats.spell: kinds without kids. -/
import Derived.Test.YtcfcdobgpldoiaaGreatDoorQuote
import Derived.Test.YtcfcdobgpldoiaaGreatDoorRef4c
import Derived.Recover
import Derived.Defers
import Derived.Deep.RegionWith
import Derived.Deep.CutRange
namespace Go.Proofs.YtcfcdobgpldoiaaGreatDoor
set_option linter.all false
open Go.RowKit

theorem Bld.kept {N T : Nat} {l : List UInt8} {w w' : World} (h : Bld N T l w) (k : Kept Nix w w') : Bld N T l w' := by
  have one : ∀ p, Lib.BuilderAtF 61 5 T N p (Lib.byteCells l) w → Lib.BuilderAtF 61 5 T N p (Lib.byteCells l) w' := by
    rintro p ⟨h1, v, h2, ⟨h3, h4⟩, h5⟩
    refine ⟨h1, v, by rw [k.block _ (Array.getElem?_eq_some_iff.1 h2).1 (fun h => h)]; exact h2, ⟨h3, ?_⟩, h5⟩
    rcases h4 with h4 | ⟨g, cap, cur, fz, e1, e2, e3, e4⟩
    · exact .inl h4
    · exact .inr ⟨g, cap, cur, fz, e1, e2, by rw [k.block _ (Array.getElem?_eq_some_iff.1 e3).1 (fun h => h)]; exact e3, e4⟩
  exact h.elim (fun h => .inl (one _ h)) (fun h => .inr (one _ h))
structure SpI (N T W : Nat) (S : Nat → Prop) (b o : Nat) (p : PatT) (l : List UInt8) (w : World) : Prop where
  bld : Bld N T l w
  wd : WordsAt W w
  gl : Glob w
  hw : T ≤ w.heap.size
  pat : PatAt w S b o p
  hS : ∀ y, S y → y < T
  hT : T ≤ N
  hWN : W ≠ N
  hg : 0 < T ∧ 1 < T
theorem safe_kb {S : Nat → Prop} {N T : Nat} {w : World} (hS : ∀ y, S y → y < T) (hT : T ≤ N) (hw : T ≤ w.heap.size) : Safe S (XB N T w) w.heap.size := fun y hy => ⟨Nat.lt_of_lt_of_le (hS y hy) hw, KB.old (hS y hy) hT⟩
section
variable {N T W : Nat} {S : Nat → Prop} {b o : Nat} {p : PatT} {l l' : List UInt8} {w w' : World}
theorem SpI.wrote (h : SpI N T W S b o p l w) (B : Bld N T l' w') (k : KB N T w w') : SpI N T W S b o p l' w' := by
  refine ⟨B, ?_, h.gl.below (k.below h.hT h.hw) h.hg, Nat.le_trans h.hw (Kept.size k), h.pat.kept k (safe_kb h.hS h.hT h.hw), h.hS, h.hT, h.hWN, h.hg⟩
  have hb := Kept.block k W h.wd.lt (by
    rintro (h1 | ⟨_, c, fz, h1⟩)
    · exact h.hWN h1
    · have := h.wd; unfold WordsAt at this; rw [this] at h1
      simp at h1)
  unfold WordsAt; rw [hb]; exact h.wd
theorem SpI.quiet (h : SpI N T W S b o p l w) (k : Kept Nix w w') : SpI N T W S b o p l w' :=
  h.wrote (h.bld.kept k) (Kept.more k fun _ h => h.elim)
theorem SpI.word (h : SpI N T W S b o p l w) (j : Nat) (hj : j < 21) : ∃ x : ByteArray, w.cell? ⟨W, j, none⟩ = some (.string x) ∧ x = ⟨(wordL j).toArray⟩ := by
  have h1 := h.wd.cell j hj
  rw [Nat.zero_add] at h1
  exact ⟨_, h1, by unfold wordL; simp⟩
end
/-- The walk's own end: no panic comes. (A region that draws its order wants this where deferred calls wait.) -/
def NoPanic (Q : Exit → Act → World → Prop) : Exit → Act → World → Prop
  | .panic _, _, _ => False
  | x, a, w => Q x a w
theorem noPanic_le {Q : Exit → Act → World → Prop} : ∀ e a w, NoPanic Q e a w → Q e a w := by
  intro e a w h; cases e <;> first | exact h | exact h.elim
def SpPost (N T : Nat) (l : List UInt8) (w : World) (e : Ending) (w' : World) : Prop := e = .returned (.tuple #[]) ∧ Bld N T l w' ∧ KB N T w w'
def big : Nat := 1000000000000
def SpOk (N T W : Nat) (S : Nat → Prop) (b o i : Nat) (p : PatT) (l : List UInt8) (w : World) : Prop :=
  Calls Tryz.prog 41 #[.pointer (some ⟨N, 0, none⟩), .pointer (some ⟨b, o, none⟩), .slice (some ⟨W, 0, none⟩) 21 21, .int .i64 i] w (SpPost N T (l ++ showF p i) w)

set_option maxRecDepth 100000 in
set_option maxHeartbeats 4000000 in
theorem spell_lit (N T W : Nat) (S : Nat → Prop) (b o i : Nat) (k : Int) (t : ByteArray) (n : Int) (nm : ByteArray) (kids : List PatT) (l : List UInt8) (w : World) (h : SpI N T W S b o (.mk k t n nm kids) l w) (hn : nodeF (.mk k t n nm kids) = 0) (hl : l.length + (showF (.mk k t n nm kids) i).length ≤ big) (hk : k = 1) :
    SpOk N T W S b o i (.mk k t n nm kids) l w := by
  obtain ⟨hk24, ht, hnn, hnm, _⟩ := node_facts hn
  obtain ⟨hSb, hz, p0, p1, p2, p3, ka, cap, p4, hkk⟩ := h.pat.open
  dsimp only [PatT.kind_mk, PatT.text_mk, PatT.n_mk, PatT.name_mk, PatT.kids_mk] at p0 p1 p2 p3 p4
  unfold big at hl
  unfold SpOk
  have HH := Lib.hid h
  have hN : T ≤ N := h.hT
  have e0 : decide ((i : Int) < 0) = false := by simp
  clear hkk hz hn
  subst hk
  have hs : showF (.mk 1 t n nm kids) i = quoteL t := by rw [showF, if_pos rfl]
  rw [hs] at hl ⊢
  have ht1 := ht (.inl rfl)
  have HT := Lib.hid ht1
  have hql := quote_len t
  clear ht hnn hnm hs h
  go_enter_defers Tryz.func41, Tryz.ntmps41
  go_wp2_with fail
  refine (quote_any t w HH.out.gl (by omega)).mono ?_
  rintro e w1 ⟨rfl, K1⟩
  have h1 := Lib.hid (HH.out.quiet K1)
  have HK1 := Lib.hid K1
  clear K1
  go_wp2_with fail
  refine (writeString_any N T l ⟨(quoteL t).toArray⟩ _ h1.out.bld (by show l.length + (quoteL t).toArray.size ≤ _; rw [List.size_toArray]; omega) h1.out.hw).mono ?_
  rintro e w2 ⟨rfl, Q, K2⟩
  have Q := Lib.hid Q
  have KK : Hid (KB N T w w2) := KB.trans (Kept.more HK1.out fun _ h => h.elim) K2
  clear K2
  go_wp2_with fail
  exact ⟨_, results_none rfl _ _ _, rfl, Q.out, KK.out⟩
end Go.Proofs.YtcfcdobgpldoiaaGreatDoor
