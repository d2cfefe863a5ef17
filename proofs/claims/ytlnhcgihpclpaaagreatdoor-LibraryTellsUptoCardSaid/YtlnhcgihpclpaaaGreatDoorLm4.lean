/- The reader of patterns: what its small steps come to, as plain functions of the text and the place. The reader of patterns: fail, is, need, word, name. The reader of patterns: word, name. Lists of bytes that the call owns, and the text of one. -/
import Derived.Test.YtlnhcgihpclpaaaGreatDoorLm3
import Derived.Deep.QuietTactic
import Derived.BigQuiet
import Derived.Deep.LoopGhost
import Derived.WalkLawsBesides
import Derived.Test.YtlnhcgihpclpaaaGreatDoorLm1
namespace Go.Proofs.YtlnhcgihpclpaaaGreatDoor
set_option linter.all false
open Go.RowKit

abbrev Er := Int × Nat
abbrev Res (α : Type) := Except Er (α × Nat)

def skip (s : ByteArray) (i : Nat) : Nat := i + ((s.data.toList.drop i).takeWhile fun c => c == 32).length
def peek (s : ByteArray) (i : Nat) : Int := if h : i < s.size then (s[i].toNat : Int) else -1
theorem drop_cons {s : ByteArray} {i : Nat} (h : i < s.size) : s.data.toList.drop i = s[i] :: s.data.toList.drop (i + 1) := by
  have h' : i < s.data.toList.length := by simpa using h
  rw [List.drop_eq_getElem_cons h']; rfl
theorem drop_end {s : ByteArray} {i : Nat} (h : s.size ≤ i) : s.data.toList.drop i = [] := List.drop_of_length_le (by simpa using h)
theorem skip_blank {s : ByteArray} {i : Nat} (h : i < s.size) (hb : s[i].toNat = 32) : skip s i = skip s (i + 1) := by
  have : s[i] = 32 := UInt8.toNat_inj.1 (by simpa using hb)
  unfold skip
  rw [drop_cons h, List.takeWhile_cons, if_pos (by simp [this]), List.length_cons]; omega
theorem skip_stop {s : ByteArray} {i : Nat} (h : i < s.size) (hb : s[i].toNat ≠ 32) : skip s i = i := by
  unfold skip
  rw [drop_cons h, List.takeWhile_cons, if_neg (by simp; intro e; exact hb (by rw [e]; rfl))]; simp
theorem skip_end {s : ByteArray} {i : Nat} (h : s.size ≤ i) : skip s i = i := by
  unfold skip; rw [drop_end h]; simp
theorem skip_ge (s : ByteArray) (i : Nat) : i ≤ skip s i := by unfold skip; omega
theorem skip_le {s : ByteArray} {i : Nat} (h : i ≤ s.size) : skip s i ≤ s.size := by
  unfold skip
  have := (List.takeWhile_sublist (fun c => c == (32 : UInt8)) (l := s.data.toList.drop i)).length_le
  rw [List.length_drop] at this
  have e : s.data.toList.length = s.size := rfl
  omega

def isW (c : UInt8) : Bool := upperN c || digitN c
def runEnd (f : UInt8 → Bool) (s : ByteArray) (i : Nat) : Nat := i + ((s.data.toList.drop i).takeWhile f).length
theorem run_yes {f : UInt8 → Bool} {s : ByteArray} {i : Nat} (h : i < s.size) (hb : f s[i] = true) : runEnd f s i = runEnd f s (i + 1) := by
  unfold runEnd
  rw [drop_cons h, List.takeWhile_cons, if_pos hb, List.length_cons]; omega
theorem run_no {f : UInt8 → Bool} {s : ByteArray} {i : Nat} (h : i < s.size) (hb : f s[i] = false) : runEnd f s i = i := by
  unfold runEnd
  rw [drop_cons h, List.takeWhile_cons, if_neg (by simp [hb])]; simp
theorem run_end {f : UInt8 → Bool} {s : ByteArray} {i : Nat} (h : s.size ≤ i) : runEnd f s i = i := by
  unfold runEnd; rw [drop_end h]; simp
theorem run_ge (f : UInt8 → Bool) (s : ByteArray) (i : Nat) : i ≤ runEnd f s i := by unfold runEnd; omega
theorem run_le {f : UInt8 → Bool} {s : ByteArray} {i : Nat} (h : i ≤ s.size) : runEnd f s i ≤ s.size := by
  unfold runEnd
  have := (List.takeWhile_sublist f (l := s.data.toList.drop i)).length_le
  rw [List.length_drop] at this
  have e : s.data.toList.length = s.size := rfl
  omega

def isP (c : Nat) (s : ByteArray) (i : Nat) : Bool × Nat := if peek s (skip s i) = c then (true, skip s i + 1) else (false, skip s i)
def needP (c : Nat) (s : ByteArray) (i : Nat) : Except Er Nat := if peek s (skip s i) = c then .ok (skip s i + 1) else .error (2, skip s i)
def wordP (s : ByteArray) (i : Nat) : Res (ByteArray × Nat) :=
  if 65 ≤ peek s (skip s i) ∧ peek s (skip s i) ≤ 90 then .ok ((s.extract (skip s i) (runEnd isW s (skip s i)), skip s i), runEnd isW s (skip s i)) else .error (2, skip s i)
def nameP (s : ByteArray) (i : Nat) : Res ByteArray :=
  match wordP s i with
  | .error e => .error e
  | .ok ((w, at_), k) => if 16 < w.size then .error (7, at_) else .ok (w, k)

def oopsV (er : Er) : Value := .iface 145 (.agg #[.int .i64 er.1, .int .i64 er.2])
/-- The reader's four cells at block N, its words at block W. -/
structure Rdr (N W : Nat) (s : ByteArray) (i d : Nat) (w : World) : Prop where
  blk : w.heap[N]? = some (.cells #[.string s, .int .i64 i, .slice (some ⟨W, 0, none⟩) 21 21, .int .i64 d] 148 (0, 0))
  ne : N ≠ W
  words : WordsAt W w
theorem Rdr.ltW {N W i d : Nat} {s : ByteArray} {w : World} (h : Rdr N W s i d w) : W < w.heap.size := h.words.lt
theorem Rdr.lt {N W i d : Nat} {s : ByteArray} {w : World} (h : Rdr N W s i d w) : N < w.heap.size := (Array.getElem?_eq_some_iff.1 h.blk).1
theorem Rdr.c0 {N W i d : Nat} {s : ByteArray} {w : World} (h : Rdr N W s i d w) : w.cell? ⟨N, 0, none⟩ = some (.string s) := by rw [cell_of_row w N 0 _ _ _ h.blk]; rfl
theorem Rdr.c1 {N W i d : Nat} {s : ByteArray} {w : World} (h : Rdr N W s i d w) : w.cell? ⟨N, 1, none⟩ = some (.int .i64 i) := by rw [cell_of_row w N 1 _ _ _ h.blk]; rfl
theorem Rdr.c2 {N W i d : Nat} {s : ByteArray} {w : World} (h : Rdr N W s i d w) : w.cell? ⟨N, 2, none⟩ = some (.slice (some ⟨W, 0, none⟩) 21 21) := by rw [cell_of_row w N 2 _ _ _ h.blk]; rfl
theorem Rdr.c3 {N W i d : Nat} {s : ByteArray} {w : World} (h : Rdr N W s i d w) : w.cell? ⟨N, 3, none⟩ = some (.int .i64 d) := by rw [cell_of_row w N 3 _ _ _ h.blk]; rfl
theorem Rdr.fr {N W i d : Nat} {s : ByteArray} {w : World} (h : Rdr N W s i d w) (o : Nat) : w.frozen? ⟨N, o, none⟩ = false := by simp [World.frozen?, h.blk]
theorem row_setCell {w : World} {N o : Nat} {cs : Array Value} {t : TypeId} {fr : Nat × Nat} (h : w.heap[N]? = some (.cells cs t fr)) (u : Value) :
    (w.setCell ⟨N, o, none⟩ u).heap[N]? = some (.cells (cs.setIfInBounds o u) t fr) := by
  simp [World.setCell, Array.getElem?_modify, h]
theorem Rdr.setAt {N W i d : Nat} {s : ByteArray} {w : World} (h : Rdr N W s i d w) (k : Nat) : Rdr N W s k d (w.setCell ⟨N, 1, none⟩ (.int .i64 k)) := ⟨by rw [row_setCell h.blk]; rfl, h.ne, h.words.kept ((Kept.refl (· = N) w).setCell (.inl rfl) _) (Ne.symm h.ne)⟩
theorem Rdr.setDepth {N W i d : Nat} {s : ByteArray} {w : World} (h : Rdr N W s i d w) (k : Nat) : Rdr N W s i k (w.setCell ⟨N, 3, none⟩ (.int .i64 k)) := ⟨by rw [row_setCell h.blk]; rfl, h.ne, h.words.kept ((Kept.refl (· = N) w).setCell (.inl rfl) _) (Ne.symm h.ne)⟩
theorem Rdr.kept {N W i d : Nat} {s : ByteArray} {w w' : World} {X : Nat → Prop} (h : Rdr N W s i d w) (hk : Kept X w w') (hx : ¬ X N) (hy : ¬ X W) : Rdr N W s i d w' := ⟨by rw [hk.block N h.lt hx]; exact h.blk, h.ne, h.words.kept hk hy⟩
theorem Rdr.drewN {N W i d : Nat} {s : ByteArray} {w : World} (h : Rdr N W s i d w) (n : Nat) : Rdr N W s i d (w.drewN n) := ⟨h.blk, h.ne, h.words⟩

theorem wrap_byte (c : UInt8) : wrap64 (c.toNat : Int) = c.toNat := by have := c.toNat_lt; unfold wrap64; omega

def NextPost (N W : Nat) (s : ByteArray) (i d : Nat) (w : World) (e : Ending) (w' : World) : Prop :=
  e = .returned (.int .i64 (peek s (skip s i))) ∧ Rdr N W s (skip s i) d w' ∧ Kept (· = N) w w'
set_option maxRecDepth 100000 in
set_option maxHeartbeats 1000000 in
theorem next_any (N W : Nat) (s : ByteArray) (i d : Nat) (w : World) (hr : Rdr N W s i d w) (hi : i ≤ s.size) (hs : s.size ≤ 1000000000) :
    Calls Tryz.prog 96 #[.pointer (some ⟨N, 0, none⟩)] w (NextPost N W s i d w) := by
  have HR := Lib.hid hr; clear hr
  go_enter Tryz.func96, Tryz.ntmps96
  go_wp2_with fail
  go_loopg [] (s.size - i) (fun f wr => ∃ k, i ≤ k ∧ k ≤ s.size ∧ f = s.size - k ∧ Hid (skip s k = skip s i) ∧ Rdr N W s k d wr ∧ Kept (· = N) w wr)
  case atStart => exact ⟨i, Nat.le_refl _, hi, rfl, rfl, HR.out, Kept.refl _ _⟩
  case round =>
    obtain ⟨k, hk1, hk2, rfl, hsk, hR, hK⟩ := hrel
    have q0 := hR.c0; have q1 := hR.c1; have f1 := hR.fr 1
    have R1 := Lib.hid hR; have K1 := Lib.hid hK
    clear hR hK
    by_cases hlt : k < s.size
    · have g1 : decide ((k : Int) < (s.size : Int)) = true := decide_eq_true (by omega)
      have bi : (k : Int) < (s.size : Int) := by omega
      by_cases hb : s[k].toNat = 32
      · have g2 : ((s[k].toNat : Int) == 32) = true := by simp; omega
        have hs1 : Hid (skip s (k + 1) = skip s i) := (skip_blank hlt hb).symm.trans hsk.out
        clear hb
        go_wp2_with fail
        go_quiet (fail)
        have R2 := (R1.out.drewN nq).setAt (k + 1)
        have K2 := (K1.out.drewN nq).setCell (p := ⟨N, 1, none⟩) (.inl rfl) (.int .i64 ((k + 1 : Nat) : Int))
        have RR := Lib.hid R2; have KK := Lib.hid K2; clear R2 K2
        go_wp2_with fail
        go_roundg (s.size - (k + 1))
        case measure => omega
        case rel => exact ⟨k + 1, by omega, by omega, rfl, hs1, RR.out, KK.out⟩
      · have g2 : ((s[k].toNat : Int) == 32) = false := by simp; omega
        have e1 : Hid (skip s i = k) := hsk.out.symm.trans (skip_stop hlt hb)
        have bsz : ((k : Int) == (s.size : Int)) = false := by simp; omega
        have fin : Hid (∀ x w', x = (s[k].toNat : Int) → Rdr N W s k d w' → Kept (· = N) w w' → NextPost N W s i d w (.returned (.int .i64 x)) w') := fun x w' hx h1 h2 => by
          unfold NextPost; rw [e1.out]; exact ⟨by unfold peek; rw [dif_pos hlt, hx], h1, h2⟩
        clear hb
        go_wp2_with fail
        go_quiet (fail)
        go_wp2_with fail
        go_quiet (fail)
        go_wp2_with fail
        go_quiet (fail)
        go_wp2_with fail
        go_ret
        exact fin.out _ _ (wrap_byte _) (((R1.out.drewN _).drewN _).drewN _) (((K1.out.drewN _).drewN _).drewN _)
    · have g1 : decide ((k : Int) < (s.size : Int)) = false := decide_eq_false (by omega)
      have bsz : ((k : Int) == (s.size : Int)) = true := by simp; omega
      have e1 : Hid (skip s i = k) := hsk.out.symm.trans (skip_end (by omega))
      have fin : Hid (∀ w', Rdr N W s k d w' → Kept (· = N) w w' → NextPost N W s i d w (.returned (.int .i64 (-1))) w') := fun w' h1 h2 => by
        unfold NextPost; rw [e1.out]; exact ⟨by unfold peek; rw [dif_neg hlt], h1, h2⟩
      go_wp2_with fail
      go_quiet (fail)
      go_wp2_with fail
      go_quiet (fail)
      go_wp2_with fail
      go_ret
      exact fin.out _ ((R1.out.drewN _).drewN _) ((K1.out.drewN _).drewN _)
end Go.Proofs.YtlnhcgihpclpaaaGreatDoor

namespace Go.Proofs.YtlnhcgihpclpaaaGreatDoor
set_option linter.all false
open Go.RowKit

def Threw (er : Er) (e : Ending) : Prop := e = .panicked [{ v := oopsV er, recovered := false }]
set_option maxRecDepth 100000 in
theorem fail_any (a : Value) (er : Int) (i : Nat) (w : World) : Calls Tryz.prog 97 #[a, .int .i64 er, .int .i64 i] w fun e w' => Threw (er, i) e ∧ w = w' := by
  go_enter Tryz.func97, Tryz.ntmps97
  go_wp2_with fail
  exact ⟨rfl, rfl, rfl⟩

def IsPost (c N W : Nat) (s : ByteArray) (i d : Nat) (w : World) (e : Ending) (w' : World) : Prop :=
  e = .returned (.bool (isP c s i).1) ∧ Rdr N W s (isP c s i).2 d w' ∧ Kept (· = N) w w'
set_option maxRecDepth 100000 in
set_option maxHeartbeats 1000000 in
theorem is_any (c N W : Nat) (hc : c < 256) (s : ByteArray) (i d : Nat) (w : World) (hr : Rdr N W s i d w) (hi : i ≤ s.size) (hs : s.size ≤ 1000000000) :
    Calls Tryz.prog 102 #[.pointer (some ⟨N, 0, none⟩), .int .u8 c] w (IsPost c N W s i d w) := by
  have HR := Lib.hid hr; clear hr
  have hw : wrap64 (c : Int) = c := by unfold wrap64; omega
  have hle := skip_le hi
  go_enter Tryz.func102, Tryz.ntmps102
  go_wp2_with fail
  refine (next_any N W s i d _ HR.out hi hs).mono ?_
  rintro e w1 ⟨rfl, R1, K1⟩
  by_cases hp : peek s (skip s i) = c
  · have hb : (peek s (skip s i) != (c : Int)) = false := by simpa using hp
    have hlt : skip s i < s.size := by
      unfold peek at hp; split at hp
      · assumption
      · omega
    have e1 : Hid (isP c s i = (true, skip s i + 1)) := by unfold Hid isP; rw [if_pos hp]
    have q1 := R1.c1; have f1 := R1.fr 1
    have fin : Hid (∀ w', w' = w1.setCell ⟨N, 1, none⟩ (.int .i64 ((skip s i + 1 : Nat) : Int)) → IsPost c N W s i d w (.returned (.bool true)) w') := by
      rintro w' rfl; unfold IsPost; rw [e1.out]; exact ⟨rfl, R1.setAt _, K1.setCell (p := ⟨N, 1, none⟩) (.inl rfl) _⟩
    clear R1 K1 hp
    go_wp2_with fail
    go_ret
    exact fin.out _ rfl
  · have hb : (peek s (skip s i) != (c : Int)) = true := by simpa using hp
    have e1 : Hid (isP c s i = (false, skip s i)) := by unfold Hid isP; rw [if_neg hp]
    have fin : Hid (IsPost c N W s i d w (.returned (.bool false)) w1) := by
      unfold Hid IsPost; rw [e1.out]; exact ⟨rfl, R1, K1⟩
    clear R1 K1 hp
    go_wp2_with fail
    go_ret
    exact fin.out

def NeedPost (c N W : Nat) (s : ByteArray) (i d : Nat) (w : World) (e : Ending) (w' : World) : Prop :=
  Kept (· = N) w w' ∧ match needP c s i with
    | .ok k => e = .returned (.tuple #[]) ∧ Rdr N W s k d w'
    | .error er => Threw er e
set_option maxRecDepth 100000 in
set_option maxHeartbeats 1000000 in
theorem need_any (c N W : Nat) (hc : c < 256) (s : ByteArray) (i d : Nat) (w : World) (hr : Rdr N W s i d w) (hi : i ≤ s.size) (hs : s.size ≤ 1000000000) :
    Calls Tryz.prog 107 #[.pointer (some ⟨N, 0, none⟩), .int .u8 c] w (NeedPost c N W s i d w) := by
  have HR := Lib.hid hr; clear hr
  go_enter Tryz.func107, Tryz.ntmps107
  go_wp2_with fail
  refine (is_any c N W hc s i d _ HR.out hi hs).mono ?_
  rintro e w1 ⟨rfl, R1, K1⟩
  by_cases hp : peek s (skip s i) = c
  · have e1 : isP c s i = (true, skip s i + 1) := by unfold isP; rw [if_pos hp]
    have e2 : needP c s i = .ok (skip s i + 1) := by unfold needP; rw [if_pos hp]
    rw [e1] at R1 ⊢
    have fin : Hid (NeedPost c N W s i d w (.returned (.tuple #[])) w1) := by unfold Hid NeedPost; rw [e2]; exact ⟨K1, rfl, R1⟩
    clear e1 e2 hp R1 K1
    go_wp2_with fail
    first | go_end0 | (refine bodyPost_ret (results_none rfl _ _ _) rfl ?_)
    exact fin.out
  · have e1 : isP c s i = (false, skip s i) := by unfold isP; rw [if_neg hp]
    have e2 : needP c s i = .error (2, skip s i) := by unfold needP; rw [if_neg hp]
    rw [e1] at R1 ⊢
    have q1 := R1.c1
    have fin : Hid (∀ e, Threw (2, skip s i) e → NeedPost c N W s i d w e w1) := by intro e h; unfold NeedPost; rw [e2]; exact ⟨K1, h⟩
    clear e1 e2 hp R1 K1
    go_wp2_with fail
    refine (fail_any _ 2 (skip s i) w1).mono ?_
    rintro e w2 ⟨rfl, rfl⟩
    go_wp2_with fail
    exact ⟨rfl, fin.out _ rfl⟩
end Go.Proofs.YtlnhcgihpclpaaaGreatDoor

namespace Go.Proofs.YtlnhcgihpclpaaaGreatDoor
set_option linter.all false
open Go.RowKit

def RPost {α : Type} (N W : Nat) (s : ByteArray) (d : Nat) (r : Res α) (val : α → World → Value → Prop) (w : World) (e : Ending) (w' : World) : Prop :=
  Kept (· = N) w w' ∧ match r with
    | .ok (a, k) => ∃ v, e = .returned v ∧ val a w' v ∧ Rdr N W s k d w'
    | .error er => Threw er e
def wordV (x : ByteArray × Nat) (_ : World) (v : Value) : Prop := v = .tuple #[.string x.1, .int .i64 x.2]
def strV (x : ByteArray) (_ : World) (v : Value) : Prop := v = .string x
theorem peek_at {s : ByteArray} {k : Nat} (h : k < s.size) : peek s k = s[k].toNat := by unfold peek; rw [dif_pos h]
theorem peek_lt {s : ByteArray} {k : Nat} (h : 0 ≤ peek s k) : k < s.size := by
  unfold peek at h; split at h
  · assumption
  · omega
theorem isW_eq (c : UInt8) : isW c = ((decide ((65 : Int) ≤ (c.toNat : Int)) && decide ((c.toNat : Int) ≤ 90)) || (decide ((48 : Int) ≤ (c.toNat : Int)) && decide ((c.toNat : Int) ≤ 57))) := by
  rw [Bool.eq_iff_iff]; simp [isW, upperN, digitN]; omega

set_option maxRecDepth 100000 in
set_option maxHeartbeats 4000000 in
theorem word_any (N W : Nat) (s : ByteArray) (i d : Nat) (w : World) (hr : Rdr N W s i d w) (hi : i ≤ s.size) (hs : s.size ≤ 1000000000) :
    Calls Tryz.prog 113 #[.pointer (some ⟨N, 0, none⟩)] w (RPost N W s d (wordP s i) wordV w) := by
  have HR := Lib.hid hr; clear hr
  go_enter Tryz.func113, Tryz.ntmps113
  go_wp2_with fail
  refine (next_any N W s i d _ HR.out hi hs).mono ?_
  rintro e w1 ⟨rfl, R1, K1⟩
  have hle := skip_le hi
  have q1 := R1.c1
  by_cases hp : 65 ≤ peek s (skip s i) ∧ peek s (skip s i) ≤ 90
  · obtain ⟨p1, p2⟩ := hp
    have g1 : decide (peek s (skip s i) < 65) = false := decide_eq_false (by omega)
    have g2 : decide (90 < peek s (skip s i)) = false := decide_eq_false (by omega)
    have e2 : Hid (wordP s i = .ok ((s.extract (skip s i) (runEnd isW s (skip s i)), skip s i), runEnd isW s (skip s i))) := by unfold Hid wordP; rw [if_pos ⟨p1, p2⟩]
    have R1' := Lib.hid R1; have K1' := Lib.hid K1
    have G1 := Lib.hid g1; have G2 := Lib.hid g2
    clear R1 K1
    go_wp2_with fail
    generalize hj : skip s i = j at *
    clear g1 g2 G1 G2 p1 p2
    go_loopg [] (s.size - j) (fun f wr => ∃ k, j ≤ k ∧ k ≤ s.size ∧ f = s.size - k ∧ Hid (runEnd isW s k = runEnd isW s j) ∧ Rdr N W s k d wr ∧ Kept (· = N) w wr)
    case atStart => exact ⟨j, Nat.le_refl _, hle, rfl, rfl, R1'.out, K1'.out⟩
    case round =>
      obtain ⟨k, hk1, hk2, rfl, hrun, hR, hK⟩ := hrel
      have q0 := hR.c0; have q1 := hR.c1; have f1 := hR.fr 1
      have RR := Lib.hid hR; have KK := Lib.hid hK
      clear hR hK R1' K1'
      by_cases hlt : k < s.size
      · have g1 : decide ((k : Int) < (s.size : Int)) = true := decide_eq_true (by omega)
        have bi : (k : Int) < (s.size : Int) := by omega
        have key : (isW s[k] = false ∧ ∃ x65 x90 x48 x57 : Bool, decide ((65 : Int) ≤ (s[k].toNat : Int)) = x65 ∧ decide ((s[k].toNat : Int) ≤ 90) = x90 ∧ decide ((48 : Int) ≤ (s[k].toNat : Int)) = x48 ∧ decide ((s[k].toNat : Int) ≤ 57) = x57 ∧
              ((x65 = false ∧ x90 = true ∧ x48 = false ∧ x57 = true) ∨ (x65 = false ∧ x90 = true ∧ x48 = true ∧ x57 = false) ∨ (x65 = true ∧ x90 = false ∧ x48 = true ∧ x57 = false))) ∨
            (isW s[k] = true ∧ ∃ x65 x90 x48 x57 : Bool, decide ((65 : Int) ≤ (s[k].toNat : Int)) = x65 ∧ decide ((s[k].toNat : Int) ≤ 90) = x90 ∧ decide ((48 : Int) ≤ (s[k].toNat : Int)) = x48 ∧ decide ((s[k].toNat : Int) ≤ 57) = x57 ∧
              ((x65 = false ∧ x90 = true ∧ x48 = true ∧ x57 = true) ∨ (x65 = true ∧ x90 = true ∧ x48 = true ∧ x57 = false))) := by
          rw [isW_eq]
          rcases (show s[k].toNat < 48 ∨ (48 ≤ s[k].toNat ∧ s[k].toNat ≤ 57) ∨ (57 < s[k].toNat ∧ s[k].toNat < 65) ∨ (65 ≤ s[k].toNat ∧ s[k].toNat ≤ 90) ∨ 90 < s[k].toNat by omega) with h | h | h | h | h
          · exact .inl ⟨by simp; omega, _, _, _, _, rfl, rfl, rfl, rfl, .inl ⟨decide_eq_false (by omega), decide_eq_true (by omega), decide_eq_false (by omega), decide_eq_true (by omega)⟩⟩
          · exact .inr ⟨by simp; omega, _, _, _, _, rfl, rfl, rfl, rfl, .inl ⟨decide_eq_false (by omega), decide_eq_true (by omega), decide_eq_true (by omega), decide_eq_true (by omega)⟩⟩
          · exact .inl ⟨by simp; omega, _, _, _, _, rfl, rfl, rfl, rfl, .inr (.inl ⟨decide_eq_false (by omega), decide_eq_true (by omega), decide_eq_true (by omega), decide_eq_false (by omega)⟩)⟩
          · exact .inr ⟨by simp; omega, _, _, _, _, rfl, rfl, rfl, rfl, .inr ⟨decide_eq_true (by omega), decide_eq_true (by omega), decide_eq_true (by omega), decide_eq_false (by omega)⟩⟩
          · exact .inl ⟨by simp; omega, _, _, _, _, rfl, rfl, rfl, rfl, .inr (.inr ⟨decide_eq_true (by omega), decide_eq_false (by omega), decide_eq_true (by omega), decide_eq_false (by omega)⟩)⟩
        rcases key with ⟨hw, x65, x90, x48, x57, h65, h90, h48, h57, hx⟩ | ⟨hw, x65, x90, x48, x57, h65, h90, h48, h57, hx⟩
        · have e3 : Hid (runEnd isW s j = k) := hrun.out.symm.trans (run_no hlt hw)
          have fin : Hid (∀ w', Rdr N W s k d w' → Kept (· = N) w w' → RPost N W s d (wordP s i) wordV w (.returned (.tuple #[.string (s.extract j k), .int .i64 j])) w') := by
            intro w' h1 h2; unfold RPost; rw [e2.out, e3.out]; exact ⟨h2, _, rfl, rfl, h1⟩
          clear hw
          rcases hx with ⟨rfl, rfl, rfl, rfl⟩ | ⟨rfl, rfl, rfl, rfl⟩ | ⟨rfl, rfl, rfl, rfl⟩
          all_goals
            go_wp2_with fail
            go_quiet (fail)
            go_wp2_with fail
            go_quiet (fail)
            go_wp2_with fail
            go_ret2
            exact fin.out _ ((RR.out.drewN _).drewN _) ((KK.out.drewN _).drewN _)
        · have hr1 : Hid (runEnd isW s (k + 1) = runEnd isW s j) := (run_yes hlt hw).symm.trans hrun.out
          clear hw
          rcases hx with ⟨rfl, rfl, rfl, rfl⟩ | ⟨rfl, rfl, rfl, rfl⟩
          all_goals
            go_wp2_with fail
            go_quiet (fail)
            have R2 := Lib.hid ((RR.out.drewN nq).setAt (k + 1)); have K2 := Lib.hid ((KK.out.drewN nq).setCell (p := ⟨N, 1, none⟩) (.inl rfl) (.int .i64 ((k + 1 : Nat) : Int)))
            go_wp2_with fail
            go_roundg (s.size - (k + 1))
            case measure => omega
            case rel => exact ⟨k + 1, by omega, by omega, rfl, hr1, R2.out, K2.out⟩
      · have g1 : decide ((k : Int) < (s.size : Int)) = false := decide_eq_false (by omega)
        have e3 : Hid (runEnd isW s j = k) := hrun.out.symm.trans (run_end (by omega))
        have fin : Hid (∀ w', Rdr N W s k d w' → Kept (· = N) w w' → RPost N W s d (wordP s i) wordV w (.returned (.tuple #[.string (s.extract j k), .int .i64 j])) w') := by
          intro w' h1 h2; unfold RPost; rw [e2.out, e3.out]; exact ⟨h2, _, rfl, rfl, h1⟩
        go_wp2_with fail
        go_quiet (fail)
        go_wp2_with fail
        go_quiet (fail)
        go_wp2_with fail
        go_ret2
        exact fin.out _ ((RR.out.drewN _).drewN _) ((KK.out.drewN _).drewN _)
  · have e2 : wordP s i = .error (2, skip s i) := by unfold wordP; rw [if_neg hp]
    have fin : Hid (∀ e, Threw (2, skip s i) e → RPost N W s d (wordP s i) wordV w e w1) := by intro e h; unfold RPost; rw [e2]; exact ⟨K1, h⟩
    clear R1 K1 e2
    rcases (show peek s (skip s i) < 65 ∨ (65 ≤ peek s (skip s i) ∧ 90 < peek s (skip s i)) by omega) with h | ⟨h0, h⟩
    · have g1 : decide (peek s (skip s i) < 65) = true := decide_eq_true h
      clear hp h
      go_wp2_with fail
      refine (fail_any _ 2 (skip s i) w1).mono ?_
      rintro e w2 ⟨rfl, rfl⟩
      go_wp2_with fail
      exact ⟨rfl, fin.out _ rfl⟩
    · have g1 : decide (peek s (skip s i) < 65) = false := decide_eq_false (by omega)
      have g2 : decide (90 < peek s (skip s i)) = true := decide_eq_true h
      clear hp h h0
      go_wp2_with fail
      refine (fail_any _ 2 (skip s i) w1).mono ?_
      rintro e w2 ⟨rfl, rfl⟩
      go_wp2_with fail
      exact ⟨rfl, fin.out _ rfl⟩

theorem word_ok {s : ByteArray} {i k a : Nat} {x : ByteArray} (hi : i ≤ s.size) (h : wordP s i = .ok ((x, a), k)) : i < k ∧ k ≤ s.size ∧ x.size ≤ s.size ∧ a ≤ s.size ∧ 0 < x.size := by
  unfold wordP at h
  split at h
  · rename_i hp
    simp only [Except.ok.injEq, Prod.mk.injEq] at h
    obtain ⟨⟨rfl, rfl⟩, rfl⟩ := h
    have h1 := skip_ge s i
    have hlt : skip s i < s.size := peek_lt (by omega)
    have h2 : skip s i < runEnd isW s (skip s i) := by
      have hw : isW s[skip s i] = true := by
        rw [peek_at hlt] at hp; rw [isW_eq]; simp; omega
      rw [run_yes hlt hw]; have := run_ge isW s (skip s i + 1); omega
    have h3 := run_le (f := isW) (skip_le hi)
    refine ⟨by omega, h3, ?_, by omega, ?_⟩ <;> rw [ByteArray.size_extract] <;> omega
  · cases h

set_option maxRecDepth 100000 in
set_option maxHeartbeats 1000000 in
theorem name_any (N W : Nat) (s : ByteArray) (i d : Nat) (w : World) (hr : Rdr N W s i d w) (hi : i ≤ s.size) (hs : s.size ≤ 1000000000) :
    Calls Tryz.prog 109 #[.pointer (some ⟨N, 0, none⟩)] w (RPost N W s d (nameP s i) strV w) := by
  have HR := Lib.hid hr; clear hr
  go_enter Tryz.func109, Tryz.ntmps109
  go_wp2_with fail
  refine (word_any N W s i d _ HR.out hi hs).mono ?_
  rintro e w1 ⟨K1, h⟩
  cases hw : wordP s i with
  | error er =>
    rw [hw] at h
    obtain rfl := h
    have e1 : nameP s i = .error er := by unfold nameP; rw [hw]
    have fin : Hid (∀ e, Threw er e → RPost N W s d (nameP s i) strV w e w1) := by intro e h; unfold RPost; rw [e1]; exact ⟨K1, h⟩
    clear hw e1
    go_wp2_with fail
    exact ⟨rfl, fin.out _ rfl⟩
  | ok x =>
    obtain ⟨⟨x, a⟩, k⟩ := x
    rw [hw] at h
    obtain ⟨_, rfl, rfl, R1⟩ := h
    have hx := (word_ok hi hw).2.2.1
    by_cases hl : 16 < x.size
    · have e1 : nameP s i = .error (7, a) := by unfold nameP; rw [hw]; dsimp only; rw [if_pos hl]
      have fin : Hid (∀ e, Threw (7, a) e → RPost N W s d (nameP s i) strV w e w1) := by intro e h; unfold RPost; rw [e1]; exact ⟨K1, h⟩
      clear hw e1 R1 K1
      go_wp2_with fail
      refine (fail_any _ 7 a w1).mono ?_
      rintro e w2 ⟨rfl, rfl⟩
      go_wp2_with fail
      exact ⟨rfl, fin.out _ rfl⟩
    · have e1 : nameP s i = .ok (x, k) := by unfold nameP; rw [hw]; dsimp only; rw [if_neg hl]
      have fin : Hid (RPost N W s d (nameP s i) strV w (.returned (.string x)) w1) := by unfold Hid RPost; rw [e1]; exact ⟨K1, _, rfl, rfl, R1⟩
      clear hw e1 R1 K1
      go_wp2_with fail
      go_ret
      exact fin.out
end Go.Proofs.YtlnhcgihpclpaaaGreatDoor

namespace Go.Proofs.YtlnhcgihpclpaaaGreatDoor
set_option linter.all false
open Go.RowKit

def byteCs (bs : List UInt8) : List Value := bs.map fun b => .int .u8 (b.toNat : Int)
theorem heap_new2 {N : Nat} {w : World} {o : Obj} (h : N = w.heap.size) : (w.alloc o).heap[N]? = some o := by subst h; exact heap_alloc_new w _
theorem Kept.drewN' (w : World) (n : Nat) : Kept Nix w (w.drewN n) := ⟨rfl, rfl, rfl, Nat.le_refl _, fun _ _ _ => rfl⟩
theorem Tryz.infoB : (Tryz.prog.info? 5).map (fun i => (i.zero, i.size, i.bytes)) = some (some (.int .u8 0), 1, 1) := by kernel_rfl
theorem Win.conv {w : World} {B : Nat} {a : Option Addr} {c : Nat} {bs : List UInt8} (h : Win w B 5 1 (.slice a bs.length c) bs.length (byteCs bs)) :
    (convert 123 9 (.slice a bs.length c)).run Tryz.prog w = .ok (.string ⟨bs.toArray⟩) w := by
  rcases h.cells with ⟨hv, hn⟩ | ⟨g, o, cap, hv, _, _, _, _, hc⟩
  · simp only [Value.slice.injEq] at hv
    obtain ⟨rfl, hl, rfl⟩ := hv
    rw [List.eq_nil_of_length_eq_zero hl]
    exact run_convert_bytes_nil w 123 5 Tryz.underlying123 Tryz.underlying5 0 0 9 Tryz.underlying9
  · simp only [Value.slice.injEq, true_and] at hv
    obtain ⟨rfl, rfl⟩ := hv
    refine run_convert_bytes_back w 123 9 5 _ c bs Tryz.underlying123 Tryz.underlying5 Tryz.underlying9 fun j hj => ?_
    have e1 : (⟨g, o, none⟩ : Addr).add j = ⟨g, o + j, none⟩ := by unfold Addr.add; split <;> simp_all
    rw [e1]; exact (hc j _ (by simp [byteCs, hj])).1
end Go.Proofs.YtlnhcgihpclpaaaGreatDoor
