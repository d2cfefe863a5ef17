/- The reader of patterns: what its small steps come to, as plain functions of the text and the place. -/
import Derived.Test.YtdnglicgmlldlaaDoorTm2
import Derived.Deep.QuietTactic
import Derived.BigQuiet
import Derived.Deep.LoopGhost
namespace Go.Proofs.YtdnglicgmlldlaaDoor
open Go.RowKit

abbrev Er := Int × Nat
abbrev Res (α : Type) := Except Er (α × Nat)

def skip (s : ByteArray) (i : Nat) : Nat := i + ((s.data.toList.drop i).takeWhile fun c => c == 32).length
def peek (s : ByteArray) (i : Nat) : Int := if h : i < s.size then (s[i].toNat : Int) else -1
theorem drop_cons {s : ByteArray} {i : Nat} (h : i < s.size) : s.data.toList.drop i = s[i] :: s.data.toList.drop (i + 1) := by
  have h' : i < s.data.toList.length := by simpa using h
  rw [List.drop_eq_getElem_cons h']; rfl
theorem drop_end {s : ByteArray} {i : Nat} (h : s.size ≤ i) : s.data.toList.drop i = [] := List.drop_of_length_le (by simpa using h)
theorem skip_blank {s : ByteArray} {i : Nat} (h : i < s.size) (hb : s[i].toNat = 32) : skip s i = skip s (i + 1) := by
  have : s[i] = 32 := UInt8.toNat_inj.1 (by simpa using hb)
  unfold skip
  rw [drop_cons h, List.takeWhile_cons, if_pos (by simp [this]), List.length_cons]; omega
theorem skip_stop {s : ByteArray} {i : Nat} (h : i < s.size) (hb : s[i].toNat ≠ 32) : skip s i = i := by
  unfold skip
  rw [drop_cons h, List.takeWhile_cons, if_neg (by simp; intro e; exact hb (by rw [e]; rfl))]; simp
theorem skip_end {s : ByteArray} {i : Nat} (h : s.size ≤ i) : skip s i = i := by
  unfold skip; rw [drop_end h]; simp
theorem skip_ge (s : ByteArray) (i : Nat) : i ≤ skip s i := by unfold skip; omega
theorem skip_le {s : ByteArray} {i : Nat} (h : i ≤ s.size) : skip s i ≤ s.size := by
  unfold skip
  have := (List.takeWhile_sublist (fun c => c == (32 : UInt8)) (l := s.data.toList.drop i)).length_le
  rw [List.length_drop] at this
  have e : s.data.toList.length = s.size := rfl
  omega

def isW (c : UInt8) : Bool := upperN c || digitN c
def runEnd (f : UInt8 → Bool) (s : ByteArray) (i : Nat) : Nat := i + ((s.data.toList.drop i).takeWhile f).length
theorem run_yes {f : UInt8 → Bool} {s : ByteArray} {i : Nat} (h : i < s.size) (hb : f s[i] = true) : runEnd f s i = runEnd f s (i + 1) := by
  unfold runEnd
  rw [drop_cons h, List.takeWhile_cons, if_pos hb, List.length_cons]; omega
theorem run_no {f : UInt8 → Bool} {s : ByteArray} {i : Nat} (h : i < s.size) (hb : f s[i] = false) : runEnd f s i = i := by
  unfold runEnd
  rw [drop_cons h, List.takeWhile_cons, if_neg (by simp [hb])]; simp
theorem run_end {f : UInt8 → Bool} {s : ByteArray} {i : Nat} (h : s.size ≤ i) : runEnd f s i = i := by
  unfold runEnd; rw [drop_end h]; simp
theorem run_ge (f : UInt8 → Bool) (s : ByteArray) (i : Nat) : i ≤ runEnd f s i := by unfold runEnd; omega
theorem run_le {f : UInt8 → Bool} {s : ByteArray} {i : Nat} (h : i ≤ s.size) : runEnd f s i ≤ s.size := by
  unfold runEnd
  have := (List.takeWhile_sublist f (l := s.data.toList.drop i)).length_le
  rw [List.length_drop] at this
  have e : s.data.toList.length = s.size := rfl
  omega

def isP (c : Nat) (s : ByteArray) (i : Nat) : Bool × Nat := if peek s (skip s i) = c then (true, skip s i + 1) else (false, skip s i)
def needP (c : Nat) (s : ByteArray) (i : Nat) : Except Er Nat := if peek s (skip s i) = c then .ok (skip s i + 1) else .error (2, skip s i)
def wordP (s : ByteArray) (i : Nat) : Res (ByteArray × Nat) :=
  if 65 ≤ peek s (skip s i) ∧ peek s (skip s i) ≤ 90 then .ok ((s.extract (skip s i) (runEnd isW s (skip s i)), skip s i), runEnd isW s (skip s i)) else .error (2, skip s i)
def nameP (s : ByteArray) (i : Nat) : Res ByteArray :=
  match wordP s i with
  | .error e => .error e
  | .ok ((w, at_), k) => if 16 < w.size then .error (7, at_) else .ok (w, k)

def oopsV (er : Er) : Value := .iface 50 (.agg #[.int .i64 er.1, .int .i64 er.2])
def strB (l : List UInt8) : ByteArray := ⟨l.toArray⟩
def wordsL : List ByteArray := [strB [], strB [], strB [76, 69, 78], strB [65, 78, 89], strB [78, 79, 84, 65, 78, 89], strB [83, 80, 65, 78], strB [66, 82, 69, 65, 75], strB [66, 82, 69, 65, 75, 88], strB [84, 65, 66], strB [82, 84, 65, 66], strB [80, 79, 83], strB [82, 80, 79, 83], strB [82, 69, 77], strB [65, 82, 66], strB [66, 65, 76], strB [70, 65, 73, 76], strB [70, 69, 78, 67, 69], strB [65, 66, 79, 82, 84], strB [], strB [], strB [65, 82, 66, 78, 79]]
def WordsAt (W : Nat) (w : World) : Prop := w.heap[W]? = some (.cells (wordsL.map Value.string).toArray 9 (0, 0))
theorem WordsAt.lt {W : Nat} {w : World} (h : WordsAt W w) : W < w.heap.size := (Array.getElem?_eq_some_iff.1 h).1
theorem WordsAt.cell {W : Nat} {w : World} (h : WordsAt W w) (j : Nat) (hj : j < wordsL.length) : w.cell? ⟨W, 0 + j, none⟩ = some (.string (wordsL.getD j ByteArray.empty)) := by
  rw [cell_of_row w W (0 + j) _ _ _ h, Nat.zero_add]
  simp [List.getD_eq_getElem?_getD, List.getElem?_eq_getElem hj]
theorem WordsAt.kept {W : Nat} {w w' : World} {X : Nat → Prop} (h : WordsAt W w) (hk : Kept X w w') (hx : ¬ X W) : WordsAt W w' := by
  unfold WordsAt; rw [hk.block W h.lt hx]; exact h
/-- The reader's four cells at block N, its words at block W. -/
structure Rdr (N W : Nat) (s : ByteArray) (i d : Nat) (w : World) : Prop where
  blk : w.heap[N]? = some (.cells #[.string s, .int .i64 i, .slice (some ⟨W, 0, none⟩) 21 21, .int .i64 d] 53 (0, 0))
  ne : N ≠ W
  words : WordsAt W w
theorem Rdr.ltW {N W i d : Nat} {s : ByteArray} {w : World} (h : Rdr N W s i d w) : W < w.heap.size := h.words.lt
theorem Rdr.lt {N W i d : Nat} {s : ByteArray} {w : World} (h : Rdr N W s i d w) : N < w.heap.size := (Array.getElem?_eq_some_iff.1 h.blk).1
theorem Rdr.c0 {N W i d : Nat} {s : ByteArray} {w : World} (h : Rdr N W s i d w) : w.cell? ⟨N, 0, none⟩ = some (.string s) := by rw [cell_of_row w N 0 _ _ _ h.blk]; rfl
theorem Rdr.c1 {N W i d : Nat} {s : ByteArray} {w : World} (h : Rdr N W s i d w) : w.cell? ⟨N, 1, none⟩ = some (.int .i64 i) := by rw [cell_of_row w N 1 _ _ _ h.blk]; rfl
theorem Rdr.c2 {N W i d : Nat} {s : ByteArray} {w : World} (h : Rdr N W s i d w) : w.cell? ⟨N, 2, none⟩ = some (.slice (some ⟨W, 0, none⟩) 21 21) := by rw [cell_of_row w N 2 _ _ _ h.blk]; rfl
theorem Rdr.c3 {N W i d : Nat} {s : ByteArray} {w : World} (h : Rdr N W s i d w) : w.cell? ⟨N, 3, none⟩ = some (.int .i64 d) := by rw [cell_of_row w N 3 _ _ _ h.blk]; rfl
theorem Rdr.fr {N W i d : Nat} {s : ByteArray} {w : World} (h : Rdr N W s i d w) (o : Nat) : w.frozen? ⟨N, o, none⟩ = false := by simp [World.frozen?, h.blk]
theorem row_setCell {w : World} {N o : Nat} {cs : Array Value} {t : TypeId} {fr : Nat × Nat} (h : w.heap[N]? = some (.cells cs t fr)) (u : Value) :
    (w.setCell ⟨N, o, none⟩ u).heap[N]? = some (.cells (cs.setIfInBounds o u) t fr) := by
  simp [World.setCell, Array.getElem?_modify, h]
theorem Rdr.setAt {N W i d : Nat} {s : ByteArray} {w : World} (h : Rdr N W s i d w) (k : Nat) : Rdr N W s k d (w.setCell ⟨N, 1, none⟩ (.int .i64 k)) := ⟨by rw [row_setCell h.blk]; rfl, h.ne, h.words.kept ((Kept.refl (· = N) w).setCell (.inl rfl) _) (Ne.symm h.ne)⟩
theorem Rdr.setDepth {N W i d : Nat} {s : ByteArray} {w : World} (h : Rdr N W s i d w) (k : Nat) : Rdr N W s i k (w.setCell ⟨N, 3, none⟩ (.int .i64 k)) := ⟨by rw [row_setCell h.blk]; rfl, h.ne, h.words.kept ((Kept.refl (· = N) w).setCell (.inl rfl) _) (Ne.symm h.ne)⟩
theorem Rdr.kept {N W i d : Nat} {s : ByteArray} {w w' : World} {X : Nat → Prop} (h : Rdr N W s i d w) (hk : Kept X w w') (hx : ¬ X N) (hy : ¬ X W) : Rdr N W s i d w' := ⟨by rw [hk.block N h.lt hx]; exact h.blk, h.ne, h.words.kept hk hy⟩
theorem Rdr.drewN {N W i d : Nat} {s : ByteArray} {w : World} (h : Rdr N W s i d w) (n : Nat) : Rdr N W s i d (w.drewN n) := ⟨h.blk, h.ne, h.words⟩

theorem wrap_byte (c : UInt8) : wrap64 (c.toNat : Int) = c.toNat := by have := c.toNat_lt; unfold wrap64; omega

def NextPost (N W : Nat) (s : ByteArray) (i d : Nat) (w : World) (e : Ending) (w' : World) : Prop :=
  e = .returned (.int .i64 (peek s (skip s i))) ∧ Rdr N W s (skip s i) d w' ∧ Kept (· = N) w w'
set_option maxRecDepth 100000 in
set_option maxHeartbeats 1000000 in
theorem next_any (N W : Nat) (s : ByteArray) (i d : Nat) (w : World) (hr : Rdr N W s i d w) (hi : i ≤ s.size) (hs : s.size ≤ 1000000000) :
    Calls Tryd.prog 20 #[.pointer (some ⟨N, 0, none⟩)] w (NextPost N W s i d w) := by
  have HR := Lib.hid hr; clear hr
  go_enter Tryd.func20, Tryd.ntmps20
  go_wp2_with fail
  go_loopg [] (s.size - i) (fun f wr => ∃ k, i ≤ k ∧ k ≤ s.size ∧ f = s.size - k ∧ Hid (skip s k = skip s i) ∧ Rdr N W s k d wr ∧ Kept (· = N) w wr)
  case atStart => exact ⟨i, Nat.le_refl _, hi, rfl, rfl, HR.out, Kept.refl _ _⟩
  case round =>
    obtain ⟨k, hk1, hk2, rfl, hsk, hR, hK⟩ := hrel
    have q0 := hR.c0; have q1 := hR.c1; have f1 := hR.fr 1
    have R1 := Lib.hid hR; have K1 := Lib.hid hK
    clear hR hK
    by_cases hlt : k < s.size
    · have g1 : decide ((k : Int) < (s.size : Int)) = true := decide_eq_true (by omega)
      have bi : (k : Int) < (s.size : Int) := by omega
      by_cases hb : s[k].toNat = 32
      · have g2 : ((s[k].toNat : Int) == 32) = true := by simp; omega
        have hs1 : Hid (skip s (k + 1) = skip s i) := (skip_blank hlt hb).symm.trans hsk.out
        clear hb
        go_wp2_with fail
        go_quiet (fail)
        have R2 := (R1.out.drewN nq).setAt (k + 1)
        have K2 := (K1.out.drewN nq).setCell (p := ⟨N, 1, none⟩) (.inl rfl) (.int .i64 ((k + 1 : Nat) : Int))
        have RR := Lib.hid R2; have KK := Lib.hid K2; clear R2 K2
        go_wp2_with fail
        go_roundg (s.size - (k + 1))
        case measure => omega
        case rel => exact ⟨k + 1, by omega, by omega, rfl, hs1, RR.out, KK.out⟩
      · have g2 : ((s[k].toNat : Int) == 32) = false := by simp; omega
        have e1 : Hid (skip s i = k) := hsk.out.symm.trans (skip_stop hlt hb)
        have bsz : ((k : Int) == (s.size : Int)) = false := by simp; omega
        have fin : Hid (∀ x w', x = (s[k].toNat : Int) → Rdr N W s k d w' → Kept (· = N) w w' → NextPost N W s i d w (.returned (.int .i64 x)) w') := fun x w' hx h1 h2 => by
          unfold NextPost; rw [e1.out]; exact ⟨by unfold peek; rw [dif_pos hlt, hx], h1, h2⟩
        clear hb
        go_wp2_with fail
        go_quiet (fail)
        go_wp2_with fail
        go_quiet (fail)
        go_wp2_with fail
        go_quiet (fail)
        go_wp2_with fail
        go_ret
        exact fin.out _ _ (wrap_byte _) (((R1.out.drewN _).drewN _).drewN _) (((K1.out.drewN _).drewN _).drewN _)
    · have g1 : decide ((k : Int) < (s.size : Int)) = false := decide_eq_false (by omega)
      have bsz : ((k : Int) == (s.size : Int)) = true := by simp; omega
      have e1 : Hid (skip s i = k) := hsk.out.symm.trans (skip_end (by omega))
      have fin : Hid (∀ w', Rdr N W s k d w' → Kept (· = N) w w' → NextPost N W s i d w (.returned (.int .i64 (-1))) w') := fun w' h1 h2 => by
        unfold NextPost; rw [e1.out]; exact ⟨by unfold peek; rw [dif_neg hlt], h1, h2⟩
      go_wp2_with fail
      go_quiet (fail)
      go_wp2_with fail
      go_quiet (fail)
      go_wp2_with fail
      go_ret
      exact fin.out _ ((R1.out.drewN _).drewN _) ((K1.out.drewN _).drewN _)
end Go.Proofs.YtdnglicgmlldlaaDoor
