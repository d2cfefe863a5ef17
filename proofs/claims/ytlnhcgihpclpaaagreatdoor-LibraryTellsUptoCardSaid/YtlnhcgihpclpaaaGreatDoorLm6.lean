/- The reader of patterns: number. The reader of patterns: its recursion, as plain functions. The reader of patterns: inner, primary. -/
import Derived.Test.YtlnhcgihpclpaaaGreatDoorLm4
import Derived.Test.YtlnhcgihpclpaaaGreatDoorLm5
import Derived.Test.YtlnhcgihpclpaaaGreatDoorShelf
import Derived.Test.YtlnhcgihpclpaaaGreatDoorLm1
namespace Go.Proofs.YtlnhcgihpclpaaaGreatDoor
set_option linter.all false
open Go.RowKit

def isD (s : ByteArray) (k : Nat) : Bool := decide (48 ≤ peek s k) && decide (peek s k ≤ 57)
def numGo (s : ByteArray) (j : Nat) : Nat → Nat → Nat → Res Nat
  | 0, k, n => .ok (n, k)
  | f + 1, k, n =>
    if isD s k = true then
      (if k = j + 1 ∧ peek s j = 48 then .error (2, k)
       else if 65536 < 10 * n + ((peek s k).toNat - 48) then .error (3, j) else numGo s j f (k + 1) (10 * n + ((peek s k).toNat - 48)))
    else .ok (n, k)
def numP (s : ByteArray) (i : Nat) : Res Nat :=
  if 48 ≤ peek s (skip s i) ∧ peek s (skip s i) ≤ 57 then numGo s (skip s i) (s.size - skip s i) (skip s i) 0 else .error (2, skip s i)
def natV (x : Nat) (_ : World) (v : Value) : Prop := v = .int .i64 x

set_option maxRecDepth 100000 in
set_option maxHeartbeats 4000000 in
theorem number_any (N W : Nat) (s : ByteArray) (i d : Nat) (w : World) (hr : Rdr N W s i d w) (hi : i ≤ s.size) (hs : s.size ≤ 1000000000) :
    Calls Tryz.prog 114 #[.pointer (some ⟨N, 0, none⟩)] w (RPost N W s d (numP s i) natV w) := by
  have HR := Lib.hid hr; clear hr
  go_enter Tryz.func114, Tryz.ntmps114
  go_wp2_with fail
  refine (next_any N W s i d _ HR.out hi hs).mono ?_
  rintro e w1 ⟨rfl, R1, K1⟩
  have hle := skip_le hi
  have q1 := R1.c1
  by_cases hp : 48 ≤ peek s (skip s i) ∧ peek s (skip s i) ≤ 57
  · obtain ⟨p1, p2⟩ := hp
    have g1 : decide (peek s (skip s i) < 48) = false := decide_eq_false (by omega)
    have g2 : decide (57 < peek s (skip s i)) = false := decide_eq_false (by omega)
    have e2 : Hid (numP s i = numGo s (skip s i) (s.size - skip s i) (skip s i) 0) := by unfold Hid numP; rw [if_pos ⟨p1, p2⟩]
    have R1' := Lib.hid R1; have K1' := Lib.hid K1
    have hjl : skip s i < s.size := peek_lt (by omega)
    clear R1 K1
    go_wp2_with fail
    generalize hj : skip s i = j at *
    clear g1 g2 p1 p2 hj
    go_loopg [5] (s.size - j) (fun f v wr => ∃ k n : Nat, j ≤ k ∧ k ≤ s.size ∧ f = s.size - k ∧ v = .int .i64 n ∧ n ≤ 65536 ∧ Hid (numP s i = numGo s j (s.size - k) k n) ∧ Rdr N W s k d wr ∧ Kept (· = N) w wr)
    case atStart => exact ⟨j, 0, Nat.le_refl _, hle, rfl, rfl, by omega, e2, R1'.out, K1'.out⟩
    case round =>
      obtain ⟨k, n, hk1, hk2, rfl, rfl, hn, hnum, hR, hK⟩ := hrel
      have q0 := hR.c0; have q1 := hR.c1; have f1 := hR.fr 1
      have RR := Lib.hid hR; have KK := Lib.hid hK
      clear hR hK R1' K1' e2
      by_cases hlt : k < s.size
      · have g1 : decide ((k : Int) < (s.size : Int)) = true := decide_eq_true (by omega)
        have bi : (k : Int) < (s.size : Int) := by omega
        have hstep : s.size - k = (s.size - (k + 1)) + 1 := by omega
        rw [hstep, numGo] at hnum
        by_cases hd : 48 ≤ s[k].toNat ∧ s[k].toNat ≤ 57
        · have h48 : decide ((48 : Int) ≤ (s[k].toNat : Int)) = true := decide_eq_true (by omega)
          have h57 : decide ((s[k].toNat : Int) ≤ 57) = true := decide_eq_true (by omega)
          have hD : isD s k = true := by unfold isD; rw [peek_at hlt]; simp; omega
          rw [if_pos hD] at hnum
          have bj : (j : Int) < (s.size : Int) := by omega
          have hjw : s[j].toNat < 256 := s[j].toNat_lt
          by_cases hz : k = j + 1 ∧ s[j].toNat = 48
          · obtain ⟨hz1, hz2⟩ := hz
            have fin : Hid (∀ e w', Threw (2, k) e → Kept (· = N) w w' → RPost N W s d (numP s i) natV w e w') := by
              intro e w' h h2; unfold RPost; rw [hnum.out, if_pos ⟨hz1, by rw [peek_at hjl, hz2]; rfl⟩]; exact ⟨h2, h⟩
            have g3 : ((k : Int) == (j : Int) + 1) = true := by simp; omega
            have g4 : ((s[j].toNat : Int) == 48) = true := by simp; omega
            clear hz1 hz2 hnum
            go_wp2_with fail
            go_quiet (fail)
            go_wp2_with fail
            refine (fail_any _ 2 k _).mono ?_
            rintro e w2 ⟨rfl, rfl⟩
            go_wp2_with fail
            exact ⟨rfl, fin.out _ _ rfl (KK.out.drewN _)⟩
          · rw [if_neg (by rw [peek_at hjl]; omega)] at hnum
            have hpk : (peek s k).toNat = s[k].toNat := by rw [peek_at hlt]; omega
            rw [hpk] at hnum
            obtain ⟨x, hx⟩ : ∃ x : Nat, x = 10 * n + (s[k].toNat - 48) := ⟨_, rfl⟩
            rw [← hx] at hnum
            have hxi : (10 : Int) * (n : Int) + ((s[k].toNat : Int) - 48) = (x : Int) := by omega
            have hxb : x ≤ 655369 := by omega
            obtain ⟨hd1, hd2⟩ := hd
            have hm1 : IntKind.i64.wrap (10 * (n : Int)) = 10 * (n : Int) := IntWalk.i64_in _ (by omega)
            have hm2 : IntKind.u8.wrap ((s[k].toNat : Int) - 48) = (s[k].toNat : Int) - 48 := by unfold IntKind.wrap; simp [IntKind.signed, IntKind.bits]; omega
            clear hx
            by_cases hk0 : k = j + 1
            · have g3 : ((k : Int) == (j : Int) + 1) = true := by simp; omega
              have g4 : ((s[j].toNat : Int) == 48) = false := by simp; omega
              clear hz hk0
              by_cases hx6 : 65536 < x
              · rw [if_pos hx6] at hnum
                have fin : Hid (∀ e w', Threw (3, j) e → Kept (· = N) w w' → RPost N W s d (numP s i) natV w e w') := by intro e w' h h2; unfold RPost; rw [hnum.out]; exact ⟨h2, h⟩
                clear hnum
                go_wp2_with fail
                go_quiet (fail)
                revert nq; intro nq1
                go_wp2_with fail
                go_quiet (fail)
                revert nq; intro nq2
                go_wp2_with fail
                refine (fail_any _ 3 j _).mono ?_
                rintro e w2 ⟨rfl, rfl⟩
                go_wp2_with fail
                exact ⟨rfl, fin.out _ _ rfl (KK.out.drewN _)⟩
              · rw [if_neg hx6] at hnum
                have hnum2 := hnum
                clear hnum
                have hx7 : x ≤ 65536 := by omega
                clear hx6
                go_wp2_with fail
                go_quiet (fail)
                revert nq; intro nq1
                go_wp2_with fail
                go_quiet (fail)
                revert nq; intro nq2
                have R2 := Lib.hid ((RR.out.drewN (nq1 + nq2)).setAt (k + 1)); have K2 := Lib.hid ((KK.out.drewN (nq1 + nq2)).setCell (p := ⟨N, 1, none⟩) (.inl rfl) (.int .i64 ((k + 1 : Nat) : Int)))
                go_wp2_with fail
                go_roundg (s.size - (k + 1))
                case measure => omega
                case rel => exact ⟨k + 1, x, by omega, by omega, rfl, rfl, hx7, hnum2, R2.out, K2.out⟩
            · have g3 : ((k : Int) == (j : Int) + 1) = false := by simp; omega
              clear hz hk0
              by_cases hx6 : 65536 < x
              · rw [if_pos hx6] at hnum
                have fin : Hid (∀ e w', Threw (3, j) e → Kept (· = N) w w' → RPost N W s d (numP s i) natV w e w') := by intro e w' h h2; unfold RPost; rw [hnum.out]; exact ⟨h2, h⟩
                clear hnum
                go_wp2_with fail
                go_quiet (fail)
                revert nq; intro nq1
                go_wp2_with fail
                go_quiet (fail)
                revert nq; intro nq2
                go_wp2_with fail
                refine (fail_any _ 3 j _).mono ?_
                rintro e w2 ⟨rfl, rfl⟩
                go_wp2_with fail
                exact ⟨rfl, fin.out _ _ rfl (KK.out.drewN _)⟩
              · rw [if_neg hx6] at hnum
                have hnum2 := hnum
                clear hnum
                have hx7 : x ≤ 65536 := by omega
                clear hx6
                go_wp2_with fail
                go_quiet (fail)
                revert nq; intro nq1
                go_wp2_with fail
                go_quiet (fail)
                revert nq; intro nq2
                have R2 := Lib.hid ((RR.out.drewN (nq1 + nq2)).setAt (k + 1)); have K2 := Lib.hid ((KK.out.drewN (nq1 + nq2)).setCell (p := ⟨N, 1, none⟩) (.inl rfl) (.int .i64 ((k + 1 : Nat) : Int)))
                go_wp2_with fail
                go_roundg (s.size - (k + 1))
                case measure => omega
                case rel => exact ⟨k + 1, x, by omega, by omega, rfl, rfl, hx7, hnum2, R2.out, K2.out⟩
        · have hD : isD s k = false := by unfold isD; rw [peek_at hlt]; simp; omega
          rw [if_neg (by rw [hD]; simp)] at hnum
          have fin : Hid (∀ w', Rdr N W s k d w' → Kept (· = N) w w' → RPost N W s d (numP s i) natV w (.returned (.int .i64 n)) w') := by
            intro w' h1 h2; unfold RPost; rw [hnum.out]; exact ⟨h2, _, rfl, rfl, h1⟩
          clear hnum hD
          rcases (show s[k].toNat < 48 ∨ (48 ≤ s[k].toNat ∧ 57 < s[k].toNat) by omega) with h | ⟨h0, h⟩
          · have h48 : decide ((48 : Int) ≤ (s[k].toNat : Int)) = false := decide_eq_false (by omega)
            clear hd h
            go_wp2_with fail
            go_quiet (fail)
            go_wp2_with fail
            go_ret
            exact fin.out _ (RR.out.drewN _) (KK.out.drewN _)
          · have h48 : decide ((48 : Int) ≤ (s[k].toNat : Int)) = true := decide_eq_true (by omega)
            have h57 : decide ((s[k].toNat : Int) ≤ 57) = false := decide_eq_false (by omega)
            clear hd h0 h
            go_wp2_with fail
            go_quiet (fail)
            go_wp2_with fail
            go_ret
            exact fin.out _ (RR.out.drewN _) (KK.out.drewN _)
      · have g1 : decide ((k : Int) < (s.size : Int)) = false := decide_eq_false (by omega)
        rw [show s.size - k = 0 by omega, numGo] at hnum
        have fin : Hid (∀ w', Rdr N W s k d w' → Kept (· = N) w w' → RPost N W s d (numP s i) natV w (.returned (.int .i64 n)) w') := by
          intro w' h1 h2; unfold RPost; rw [hnum.out]; exact ⟨h2, _, rfl, rfl, h1⟩
        clear hnum
        go_wp2_with fail
        go_quiet (fail)
        go_wp2_with fail
        go_ret
        exact fin.out _ (RR.out.drewN _) (KK.out.drewN _)
  · have e2 : numP s i = .error (2, skip s i) := by unfold numP; rw [if_neg hp]
    have fin : Hid (∀ e, Threw (2, skip s i) e → RPost N W s d (numP s i) natV w e w1) := by intro e h; unfold RPost; rw [e2]; exact ⟨K1, h⟩
    clear R1 K1 e2
    rcases (show peek s (skip s i) < 48 ∨ (48 ≤ peek s (skip s i) ∧ 57 < peek s (skip s i)) by omega) with h | ⟨h0, h⟩
    · have g1 : decide (peek s (skip s i) < 48) = true := decide_eq_true h
      clear hp h
      go_wp2_with fail
      refine (fail_any _ 2 (skip s i) w1).mono ?_
      rintro e w2 ⟨rfl, rfl⟩
      go_wp2_with fail
      exact ⟨rfl, fin.out _ rfl⟩
    · have g1 : decide (peek s (skip s i) < 48) = false := decide_eq_false (by omega)
      have g2 : decide (57 < peek s (skip s i)) = true := decide_eq_true h
      clear hp h h0
      go_wp2_with fail
      refine (fail_any _ 2 (skip s i) w1).mono ?_
      rintro e w2 ⟨rfl, rfl⟩
      go_wp2_with fail
      exact ⟨rfl, fin.out _ rfl⟩

theorem numGo_ok {s : ByteArray} {j : Nat} : ∀ (f k n : Nat) {m k' : Nat}, numGo s j f k n = .ok (m, k') → k ≤ s.size → n ≤ 65536 → k ≤ k' ∧ k' ≤ s.size ∧ m ≤ 65536
  | 0, k, n, m, k', h, hk, hn => by simp [numGo] at h; omega
  | f + 1, k, n, m, k', h, hk, hn => by
    rw [numGo] at h
    split at h
    · rename_i hd
      have hlt : k < s.size := by
        unfold isD at hd
        simp only [Bool.and_eq_true, decide_eq_true_eq] at hd
        exact peek_lt (by omega)
      split at h
      · cases h
      · split at h
        · cases h
        · have := numGo_ok f _ _ h (by omega) (by omega); omega
    · simp at h; omega
theorem num_ok {s : ByteArray} {i m k : Nat} (hi : i ≤ s.size) (h : numP s i = .ok (m, k)) : i ≤ k ∧ k ≤ s.size ∧ m ≤ 65536 := by
  unfold numP at h
  split at h
  · have h1 := numGo_ok _ _ _ h (skip_le hi) (by omega)
    have h2 := skip_ge s i
    omega
  · cases h
end Go.Proofs.YtlnhcgihpclpaaaGreatDoor

namespace Go.Proofs.YtlnhcgihpclpaaaGreatDoor
set_option linter.all false
open Go.RowKit

def E0 : ByteArray := ⟨#[]⟩
def kindOf (x : ByteArray) : Int := Lib.idxOfS wordsL x
/-- Brackets round a text, a number. -/
def argTextP (s : ByteArray) (k : Nat) (kd : Int) : Res PatT :=
  match needP 40 s k with
  | .error e => .error e
  | .ok k1 => match textP s k1 with
    | .error e => .error e
    | .ok ((t, a), k2) => if t.size = 0 then .error (8, a) else
      match needP 41 s k2 with
      | .error e => .error e
      | .ok k3 => .ok (.mk kd t 0 E0 [], k3)
def argNumP (s : ByteArray) (k : Nat) (kd : Int) : Res PatT :=
  match needP 40 s k with
  | .error e => .error e
  | .ok k1 => match numP s k1 with
    | .error e => .error e
    | .ok (n, k2) => match needP 41 s k2 with
      | .error e => .error e
      | .ok k3 => .ok (.mk kd E0 n E0 [], k3)
def argPatP (inner : Nat → Res PatT) (s : ByteArray) (k : Nat) (kd : Int) : Res PatT :=
  match needP 40 s k with
  | .error e => .error e
  | .ok k1 => match inner k1 with
    | .error e => .error e
    | .ok (p, k2) => match needP 41 s k2 with
      | .error e => .error e
      | .ok k3 => .ok (.mk kd E0 0 E0 [p], k3)
def kindP (inner : Nat → Res PatT) (s : ByteArray) (a k : Nat) (kd : Int) : Res PatT :=
  if kd = -1 ∨ kd = 0 then .error (7, a)
  else if 3 ≤ kd ∧ kd ≤ 7 then argTextP s k kd
  else if kd = 2 ∨ (8 ≤ kd ∧ kd ≤ 11) then argNumP s k kd
  else if kd = 20 then argPatP inner s k kd
  else .ok (.mk kd E0 0 E0 [], k)
def litP (s : ByteArray) (j : Nat) : Res PatT :=
  match textP s j with
  | .error e => .error e
  | .ok ((t, _), k) => .ok (.mk 1 t 0 E0 [], k)
def nmP (s : ByteArray) (j : Nat) (kd : Int) : Res PatT :=
  match nameP s j with
  | .error e => .error e
  | .ok (nm, k) => .ok (.mk kd E0 0 nm [], k)
def wdP (inner : Nat → Res PatT) (s : ByteArray) (j : Nat) : Res PatT :=
  match wordP s j with
  | .error e => .error e
  | .ok ((x, a), k) => kindP inner s a k (kindOf x)
def primaryP (inner : Nat → Res PatT) (s : ByteArray) (i : Nat) : Res PatT :=
  if peek s (skip s i) = 39 then litP s (skip s i)
  else if peek s (skip s i) = 64 then nmP s (skip s i + 1) 23
  else if peek s (skip s i) = 42 then nmP s (skip s i + 1) 24
  else wdP inner s (skip s i)
def giftsP (s : ByteArray) : Nat → PatT → Nat → Res PatT
  | 0, p, k => .ok (p, k)
  | f + 1, p, k =>
    if (isP 46 s k).1 = true then
      match nameP s (isP 46 s k).2 with
      | .error e => .error e
      | .ok (nm, k1) => giftsP s f (.mk 21 E0 0 nm [p]) k1
    else if (isP 36 s (isP 46 s k).2).1 = true then
      match nameP s (isP 36 s (isP 46 s k).2).2 with
      | .error e => .error e
      | .ok (nm, k1) => giftsP s f (.mk 22 E0 0 nm [p]) k1
    else .ok (p, (isP 36 s (isP 46 s k).2).2)
def headP (inner : Nat → Res PatT) (s : ByteArray) (i : Nat) : Res PatT :=
  if (isP 40 s i).1 = true then
    match inner (isP 40 s i).2 with
    | .error e => .error e
    | .ok (p, k) => match needP 41 s k with
      | .error e => .error e
      | .ok k1 => .ok (p, k1)
  else primaryP inner s (isP 40 s i).2
def itemP (inner : Nat → Res PatT) (s : ByteArray) (i : Nat) : Res PatT :=
  match headP inner s i with
  | .error e => .error e
  | .ok (p, k) => giftsP s (s.size + 1 - k) p k
def starts (c : Int) : Bool := c == 40 || c == 39 || c == 64 || c == 42 || (decide (65 ≤ c) && decide (c ≤ 90))
def oneOr (kd : Int) (l : List PatT) : PatT := match l with | [p] => p | l => .mk kd E0 0 E0 l
def catGo (inner : Nat → Res PatT) (s : ByteArray) : Nat → List PatT → Nat → Res PatT
  | 0, l, k => .ok (oneOr 18 l, k)
  | f + 1, l, k =>
    if starts (peek s (skip s k)) = true then
      match itemP inner s (skip s k) with
      | .error e => .error e
      | .ok (p, k1) => catGo inner s f (l ++ [p]) k1
    else .ok (oneOr 18 l, skip s k)
def catP (inner : Nat → Res PatT) (s : ByteArray) (i : Nat) : Res PatT :=
  match itemP inner s i with
  | .error e => .error e
  | .ok (p, k) => catGo inner s (s.size + 1 - k) [p] k
def altGo (inner : Nat → Res PatT) (s : ByteArray) : Nat → List PatT → Nat → Res PatT
  | 0, l, k => .ok (oneOr 19 l, k)
  | f + 1, l, k =>
    if (isP 124 s k).1 = true then
      match catP inner s (isP 124 s k).2 with
      | .error e => .error e
      | .ok (p, k1) => altGo inner s f (l ++ [p]) k1
    else .ok (oneOr 19 l, (isP 124 s k).2)
def altP (inner : Nat → Res PatT) (s : ByteArray) (i : Nat) : Res PatT :=
  match catP inner s i with
  | .error e => .error e
  | .ok (p, k) => altGo inner s (s.size + 1 - k) [p] k
/-- m more brackets may be opened. -/
def innerP (s : ByteArray) : Nat → Nat → Res PatT
  | 0, i => .error (4, i)
  | m + 1, i => altP (innerP s m) s i

end Go.Proofs.YtlnhcgihpclpaaaGreatDoor

namespace Go.Proofs.YtlnhcgihpclpaaaGreatDoor
set_option linter.all false
open Go.RowKit

theorem e0_lt : E0.size < 1000000000 := by decide
theorem len0_lt : ([] : List PatT).length < 1000000000 := by decide
theorem len1_lt (p : PatT) : [p].length < 1000000000 := by simp
def patVal (B : Nat) (p : PatT) (w' : World) (v : Value) : Prop := ∃ S : Nat → Prop, (∀ b, S b → B ≤ b ∧ b < w'.heap.size) ∧ PatV w' S v p
def InnerOk (N W : Nat) (s : ByteArray) (d : Nat) (inner : Nat → Res PatT) : Prop :=
  ∀ (i : Nat) (w : World), Rdr N W s i d w → i ≤ s.size → Calls Tryz.prog 106 #[.pointer (some ⟨N, 0, none⟩)] w (RPost N W s d (inner i) (patVal w.heap.size) w)

/-- A result's five cells at block M. -/
theorem Five.set5 {M : Nat} {z0 z1 z2 z3 z4 : Value} {w : World} (h : Five M z0 z1 z2 z3 z4 w) (c0 c1 c2 c3 c4 : Value) : Five M c0 c1 c2 c3 c4 (set5 w M c0 c1 c2 c3 c4) := by
  unfold Five at h ⊢
  unfold Go.Proofs.YtlnhcgihpclpaaaGreatDoor.set5
  rw [row_setCell (row_setCell (row_setCell (row_setCell (row_setCell h _) _) _) _) _]; rfl
theorem Kept.set5 {X : Nat → Prop} {a w : World} (h : Kept X a w) {M : Nat} (hM : X M ∨ a.heap.size ≤ M) (c0 c1 c2 c3 c4 : Value) : Kept X a (set5 w M c0 c1 c2 c3 c4) :=
  ((((h.setCell (p := ⟨M, 0, none⟩) hM _).setCell (p := ⟨M, 1, none⟩) hM _).setCell (p := ⟨M, 2, none⟩) hM _).setCell (p := ⟨M, 3, none⟩) hM _).setCell (p := ⟨M, 4, none⟩) hM _
theorem results_five {f : Func} (hres : f.results = #[.cell 2 47]) {tmps : Array Value} {M : Nat} (ht : tmps.getD 2 undef = .pointer (some ⟨M, 0, none⟩)) {c0 c1 c2 c3 c4 : Value} {w : World} (h : Five M c0 c1 c2 c3 c4 w) :
    (results f tmps).run Tryz.prog w = .ok (.agg #[c0, c1, c2, c3, c4]) w := by
  obtain ⟨h0, h1, h2, h3, h4, _⟩ := h.cells
  have ht' : tmps[2]?.getD undef = .pointer (some ⟨M, 0, none⟩) := by rw [← ht, Array.getD_eq_getD_getElem?]
  simp [results, hres, go_sem, ht', h0, h1, h2, h3, h4]
/-- The end of a function of the reader that answers a pattern: w2: before the answer's five cells are written; w': behind. -/
theorem ret_patG {f : Func} (hres : f.results = #[.cell 2 47]) {tmps : Array Value} {M N W : Nat} {s : ByteArray} {d k : Nat} {r : Res PatT} {p : PatT} {w w2 w' : World} {ka : Option Addr} {cap : Nat} {S : Nat → Prop}
    (ht : tmps.getD 2 undef = .pointer (some ⟨M, 0, none⟩)) (F : Five M (.int .i64 p.kind) (.string p.text) (.int .i64 p.n) (.string p.name) (.slice ka p.kids.length cap) w') (K5 : Kept (· = M) w2 w') (R : Rdr N W s k d w2) (K : Kept (· = N) w w2) (hM : w.heap.size ≤ M) (hN : N < w.heap.size) (hW : W < w.heap.size)
    (hr : r = .ok (p, k)) (hz : p.text.size < 1000000000 ∧ p.name.size < 1000000000 ∧ p.kids.length < 1000000000) (hS : ∀ b, S b → w.heap.size ≤ b ∧ b < w2.heap.size ∧ b ≠ M) (hp : PatsAt w2 S ka p.kids) :
    bodyPost Tryz.prog f (RPost N W s d r (patVal w.heap.size) w) .ret ⟨tmps, []⟩ w' := by
  refine bodyPost_ret (v := .agg #[.int .i64 p.kind, .string p.text, .int .i64 p.n, .string p.name, .slice ka p.kids.length cap]) (results_five hres ht F) rfl ?_
  unfold RPost
  rw [hr]
  refine ⟨K.step K5 (fun y hy => .inr (by omega)), _, rfl, ⟨S, fun b hb => ⟨(hS b hb).1, Nat.lt_of_lt_of_le (hS b hb).2.1 K5.size⟩, ka, cap, rfl, hz, ?_⟩, R.kept K5 (by omega) (by omega)⟩
  exact hp.kept K5 fun b hb => ⟨(hS b hb).2.1, (hS b hb).2.2⟩
theorem ret_pat {f : Func} (hres : f.results = #[.cell 2 47]) {tmps : Array Value} {M N W : Nat} {s : ByteArray} {d k : Nat} {r : Res PatT} {p : PatT} {w w2 : World} {ka : Option Addr} {cap : Nat} {S : Nat → Prop} {z0 z1 z2 z3 z4 : Value}
    (ht : tmps.getD 2 undef = .pointer (some ⟨M, 0, none⟩)) (F : Five M z0 z1 z2 z3 z4 w2) (R : Rdr N W s k d w2) (K : Kept (· = N) w w2) (hM : w.heap.size ≤ M) (hN : N < w.heap.size) (hW : W < w.heap.size)
    (hr : r = .ok (p, k)) (hz : p.text.size < 1000000000 ∧ p.name.size < 1000000000 ∧ p.kids.length < 1000000000) (hS : ∀ b, S b → w.heap.size ≤ b ∧ b < w2.heap.size ∧ b ≠ M) (hp : PatsAt w2 S ka p.kids) :
    bodyPost Tryz.prog f (RPost N W s d r (patVal w.heap.size) w) .ret ⟨tmps, []⟩ (set5 w2 M (.int .i64 p.kind) (.string p.text) (.int .i64 p.n) (.string p.name) (.slice ka p.kids.length cap)) :=
  ret_patG hres ht (F.set5 _ _ _ _ _) ((Kept.refl (· = M) w2).set5 (.inl rfl) _ _ _ _ _) R K hM hN hW hr hz hS hp
theorem alloc_same {w w1 : World} {M : Nat} (o : Obj) (h : Kept (· = M) w w1) (hs : w1.heap.size = w.heap.size) : Kept (· = M) (w.alloc o) (w1.alloc o) := by
  refine ⟨h.os, h.tape, h.output, by simp [hs], fun k hk hn => ?_⟩
  simp at hk
  by_cases e : k = w.heap.size
  · subst e
    rw [show (w.alloc o).heap[w.heap.size]? = some o from heap_alloc_new w o, ← hs]; exact heap_alloc_new w1 o
  · rw [Below.heap_alloc _ _ _ (show k < w.heap.size by omega), Below.heap_alloc _ _ _ (show k < w1.heap.size by omega)]
    exact h.block k (by omega) hn
theorem set5_size (w : World) (M : Nat) (c0 c1 c2 c3 c4 : Value) : (set5 w M c0 c1 c2 c3 c4).heap.size = w.heap.size := by simp [set5, World.setCell]
/-- The same where the last thing made is one block more (the walk writes it outermost). -/
theorem ret_patA {f : Func} (hres : f.results = #[.cell 2 47]) {tmps : Array Value} {M N W : Nat} {s : ByteArray} {d k : Nat} {r : Res PatT} {p : PatT} {w w2 : World} {o : Obj} {ka : Option Addr} {cap : Nat} {S : Nat → Prop} {z0 z1 z2 z3 z4 : Value}
    (ht : tmps.getD 2 undef = .pointer (some ⟨M, 0, none⟩)) (F : Five M z0 z1 z2 z3 z4 w2) (R : Rdr N W s k d w2) (K : Kept (· = N) w w2) (hM : w.heap.size ≤ M) (hN : N < w.heap.size) (hW : W < w.heap.size)
    (hr : r = .ok (p, k)) (hz : p.text.size < 1000000000 ∧ p.name.size < 1000000000 ∧ p.kids.length < 1000000000) (hS : ∀ b, S b → w.heap.size ≤ b ∧ b < w2.heap.size + 1 ∧ b ≠ M) (hp : PatsAt (w2.alloc o) S ka p.kids) :
    bodyPost Tryz.prog f (RPost N W s d r (patVal w.heap.size) w) .ret ⟨tmps, []⟩ ((set5 w2 M (.int .i64 p.kind) (.string p.text) (.int .i64 p.n) (.string p.name) (.slice ka p.kids.length cap)).alloc o) := by
  have k5 : Kept (· = M) w2 (set5 w2 M (.int .i64 p.kind) (.string p.text) (.int .i64 p.n) (.string p.name) (.slice ka p.kids.length cap)) := (Kept.refl (· = M) w2).set5 (.inl rfl) _ _ _ _ _
  refine ret_patG (w2 := w2.alloc o) (S := S) hres ht ((F.set5 _ _ _ _ _).kept ((Kept.refl Nix _).alloc o) (fun h => h)) (alloc_same o k5 (set5_size _ _ _ _ _ _ _)) (R.kept ((Kept.refl Nix w2).alloc o) (fun h => h) (fun h => h)) (K.alloc o) hM hN hW hr hz (fun b hb => ?_) hp
  have := hS b hb; simp; omega
theorem ret_err {α : Type} {f : Func} {a : Act} {N W : Nat} {s : ByteArray} {d : Nat} {r : Res α} {er : Er} {val : α → World → Value → Prop} {w w' : World} (ha : a.defers = []) (hr : r = .error er) (K : Kept (· = N) w w') :
    bodyPost Tryz.prog f (RPost N W s d r val w) (.panic [{ v := oopsV er, recovered := false }]) a w' := by
  refine ⟨ha, ?_⟩
  unfold RPost; rw [hr]; exact ⟨K, rfl⟩
set_option maxRecDepth 100000 in
set_option maxHeartbeats 1000000 in
theorem prim_lit (N W : Nat) (s : ByteArray) (i d : Nat) (w : World) (inner : Nat → Res PatT) (hr : Rdr N W s i d w) (hi : i ≤ s.size) (hs6 : s.size ≤ 65536) (hc : peek s (skip s i) = 39) :
    Calls Tryz.prog 108 #[.pointer (some ⟨N, 0, none⟩)] w (RPost N W s d (primaryP inner s i) (patVal w.heap.size) w) := by
  have e0 : Hid (primaryP inner s i = litP s (skip s i)) := by unfold Hid primaryP; rw [if_pos hc]
  have HR := Lib.hid hr
  have hN := hr.lt; have hW := hr.ltW; clear hr
  have hle := skip_le hi
  have hs : s.size ≤ 1000000000 := by omega
  go_enter Tryz.func108, Tryz.ntmps108
  go_wp2_with fail
  refine (next_any N W s i d _ (HR.out.kept ((Kept.refl Nix w).alloc _) (fun h => h) (fun h => h)) hi hs).mono ?_
  rintro e w1 ⟨rfl, R1, K1⟩
  have hb : (peek s (skip s i) == 39) = true := by simpa using hc
  have F1 : Hid (Five w.heap.size (.int .i64 0) (.string ⟨#[]⟩) (.int .i64 0) (.string ⟨#[]⟩) (.slice none 0 0) w1) := Five.kept (heap_alloc_new w _) K1 (by omega)
  have K1' : Hid (Kept (· = N) w w1) := ((Kept.refl _ w).alloc _).trans K1
  have RR1 := Lib.hid R1
  clear R1 K1 hc
  go_wp2_with fail
  refine (text_any N W s (skip s i) d _ RR1.out hle hs).mono ?_
  rintro e w2 ⟨K2, h⟩
  have F2 := Lib.hid (F1.out.kept K2 (by omega))
  cases ht : textP s (skip s i) with
  | error er =>
    rw [ht] at h
    obtain rfl := h
    have hr : Hid (primaryP inner s i = .error er) := by unfold Hid; rw [e0.out]; unfold litP; rw [ht]
    clear ht
    go_wp2_with fail
    exact ret_err rfl hr.out (K1'.out.trans K2)
  | ok x =>
    obtain ⟨⟨t, a⟩, k⟩ := x
    rw [ht] at h
    obtain ⟨_, rfl, rfl, R2⟩ := h
    obtain ⟨c0, c1, c2, c3, c4, cf⟩ := F2.out.cells
    have RR2 := Lib.hid R2; clear R2
    have hts : t.size < 1000000000 := by have := text_ok ht; omega
    have hr : Hid (primaryP inner s i = .ok (.mk 1 t 0 E0 [], k)) := by unfold Hid; rw [e0.out]; unfold litP; rw [ht]
    clear ht
    have f0 := cf 0; have f1 := cf 1; have f2 := cf 2; have f3 := cf 3; have f4 := cf 4; clear cf
    go_wp2_with fail
    exact ret_pat (p := .mk 1 t 0 E0 []) (S := Nix) rfl rfl F2.out RR2.out (K1'.out.trans K2) (Nat.le_refl _) hN hW hr.out ⟨hts, e0_lt, len0_lt⟩ (fun b hb => hb.elim) (by unfold PatsAt; trivial)
end Go.Proofs.YtlnhcgihpclpaaaGreatDoor
