/- check.twice. slices.Grow of nil, slices.Concat of two lists of texts. The program's table as a function of the statements gone through, and what is wrong first (pure). The document's Check: its walk (printed by gen/rc.py). -/
import Derived.Test.YtlnhcgihpclpaaaGreatDoorLm26
import Derived.Test.YtlnhcgihpclpaaaGreatDoorShelf
import Derived.Lib.AppendZerosOnto
namespace Go.Proofs.YtlnhcgihpclpaaaGreatDoor
set_option linter.all false
open Go.RowKit

/-- Nothing is there twice. -/
def onceP (l : List ByteArray) : Prop := ∀ x (h : x < l.length), ∀ y (hy : y < x), l[x] ≠ l[y]'(by omega)
theorem contains_iff (l : List ByteArray) (n : Nat) (hn : n ≤ l.length) (x : ByteArray) : Lib.containsS (l.take n) x = true ↔ ∃ y, ∃ (h : y < n), l[y]'(by omega) = x := by
  rw [Lib.containsS_iff]
  constructor
  · intro h
    obtain ⟨y, hy, e⟩ := List.getElem_of_mem h
    rw [List.getElem_take] at e
    rw [List.length_take] at hy
    exact ⟨y, by omega, e⟩
  · rintro ⟨y, hy, rfl⟩
    have hl : y < (l.take n).length := by rw [List.length_take]; omega
    have : (l.take n)[y] = l[y]'(by omega) := List.getElem_take
    rw [← this]; exact List.getElem_mem hl
def OnceQ (l : List ByteArray) (w : World) (e : Ending) (w' : World) : Prop := ∃ b : Bool, e = .returned (.bool b) ∧ (b = false ↔ onceP l) ∧ w' = w
set_option maxRecDepth 100000 in
set_option maxHeartbeats 1000000 in
theorem twice_any (l : List ByteArray) (a : Option Addr) (c : Nat) (S : Nat → Prop) (w : World) (hl : StrsAt w S a l) (hlc : l.length ≤ c) (hlen : l.length ≤ 4000000000) :
    Calls Tryz.prog 29 #[.slice a l.length c] w (OnceQ l w) := by
  have HL := Lib.hid hl
  clear hl
  go_enter Tryz.func29, Tryz.ntmps29
  go_wp2_with fail
  go_loop [7] (fun i => ∃ j : Nat, j ≤ l.length ∧ i = .int .i64 j ∧ Hid (∀ x (h : x < l.length), x < j → ∀ y (hy : y < x), l[x] ≠ l[y]'(by omega))) (fun i => l.length - (intOf i).toNat)
  case atStart => exact ⟨0, Nat.zero_le _, rfl, by intro x _ hx; omega⟩
  case round =>
    obtain ⟨j, hj, rfl, hno⟩ := hrel
    by_cases hlt : j < l.length
    · obtain ⟨b, o, rfl, _, hc⟩ := HL.out (by omega)
      have hcj := hc j hlt
      have HC : Hid (∀ x, x < l.length → w.cell? ⟨b, o + x, none⟩ = some (.string (l.getD x ByteArray.empty))) := fun x hx => by rw [hc x hx, List.getD_eq_getElem?_getD, List.getElem?_eq_getElem hx]; rfl
      have hjc : j ≤ c := by omega
      clear hc
      by_cases h0 : j = 0
      · subst h0
        rw [Nat.add_zero] at hcj
        have step : Hid (∀ x (h : x < l.length), x < 0 + 1 → ∀ y (hy : y < x), l[x] ≠ l[y]'(by omega)) := by intro x _ hx y hy; omega
        go_wp2_with (go_at_call 30; refine (Tryz.slices_Contains_string_empty _ _ _ w).mono ?_; rintro e w' ⟨rfl, rfl⟩)
        go_round
        case rel => exact ⟨0 + 1, by omega, by go_num, step⟩
        case measure => simp [intOf]; omega
      · cases hq : Lib.containsS (l.take j) l[j] with
        | true =>
          obtain ⟨y, hy, he⟩ := (contains_iff l j (by omega) l[j]).1 hq
          have fin : Hid (¬ onceP l) := fun h => h j hlt y hy he.symm
          have HQ := Lib.hid hq
          clear hq
          go_wp2_with (go_at_call 30; refine (Tryz.slices_Contains_string b o j c l l[j] w (by omega) (by omega) HC.out).mono ?_; rintro e w' ⟨rfl, rfl⟩; rw [HQ.out])
          go_ret
          exact ⟨true, rfl, ⟨fun h => (by cases h), fun h => absurd h fin.out⟩, rfl⟩
        | false =>
          have step : Hid (∀ x (h : x < l.length), x < j + 1 → ∀ y (hy : y < x), l[x] ≠ l[y]'(by omega)) := by
            intro x h hx y hy
            rcases Nat.lt_or_ge x j with h1 | h1
            · exact hno.out x h h1 y hy
            · obtain rfl : x = j := by omega
              intro he
              have := (contains_iff l x (by omega) l[x]).2 ⟨y, hy, he.symm⟩
              rw [hq] at this; cases this
          have HQ := Lib.hid hq
          clear hq
          go_wp2_with (go_at_call 30; refine (Tryz.slices_Contains_string b o j c l l[j] w (by omega) (by omega) HC.out).mono ?_; rintro e w' ⟨rfl, rfl⟩; rw [HQ.out])
          go_round
          case rel => exact ⟨j + 1, by omega, by go_num, step⟩
          case measure => simp [intOf]; omega
    · obtain rfl : j = l.length := by omega
      have fin : Hid (onceP l) := fun x h y hy => hno.out x h h y hy
      go_wp2_with fail
      go_ret
      exact ⟨false, rfl, ⟨fun _ => fin.out, fun _ => rfl⟩, rfl⟩
end Go.Proofs.YtlnhcgihpclpaaaGreatDoor

namespace Go.Proofs.YtlnhcgihpclpaaaGreatDoor
set_option linter.all false
open Go.RowKit

def ChQ (n : Nat) (xs : List Value) (w : World) (e : Ending) (w' : World) : Prop := ∃ v, e = .returned v ∧ Ch w' w.heap.size n xs v ∧ Kept Nix w w'
theorem growNil (w : World) (k : Nat) (h0 : 0 < k) (hk : k ≤ 4000000000) : ∃ cap w', (Builtin.append_ #[25, 3] 25 #[.slice none 0 0, .int .i64 (k : Int)]).run Tryz.prog w = .ok (.slice (some ⟨w.heap.size, 0, none⟩) k cap) w' ∧
    Kept Nix w w' ∧ Ch w' w.heap.size 0 [] (.slice (some ⟨w.heap.size, 0, none⟩) 0 cap) ∧ k ≤ cap ∧ cap ≤ maxLen := by
  obtain ⟨i0, hi0, hz0, hz1, hz2⟩ := info_parts infoStr
  have h := Lib.run_append_grow_zeros (P := Tryz.prog) w 25 3 25 9 i0 (.string ⟨#[]⟩) .i64 .i64 Tryz.underlying25 Tryz.underlying3 hi0 hz0 none 0 0 [] (by simp [Builtin.firstCells]) k h0 (by rw [hz1]; decide) (by omega) (by omega) (by rw [hz2]; omega) (growslice_fits (by omega) (by rw [hz2]; omega))
  rw [Nat.zero_add] at h
  have hge := grownCap_ge w k 0 9
  have hcm : grownCap w k 0 9 ≤ maxLen := grownCap_le_maxLen w k 0 9 (by unfold maxLen; omega)
  refine ⟨_, _, h, ((Kept.refl Nix w).drew).alloc _, ⟨_, _, rfl, by simp, .inr ⟨w.heap.size, 0, _, _, rfl, Nat.le_refl _, heap_alloc_new w.drew _, Nat.zero_le _, hcm, ?_, by simp⟩⟩, hge, hcm⟩
  rw [Array.size_append, Array.size_append, List.size_toArray, size_zeroCells, size_zeroCells]
  have hzs : (Value.string ⟨#[]⟩).cells.size = 1 := rfl
  rw [hzs]
  simp only [List.length_nil]
  omega

theorem wpList_grow {w : World} {ops : Array Oper} {rest : List Oper} {o : Oper} {a : Act} {Q : Exit → Act → World → Prop} (hgd : o.guard = none) (s x : Operand) (hty : o.type = 25)
    (ho : o.op = .call { callee := .builtin .append, args := #[s, x], argTypes := #[25, 3] }) (hs : a.eval s = .slice none 0 0) (k : Nat) (hx : a.eval x = .int .i64 (k : Int)) (h0 : 0 < k) (hk : k ≤ 4000000000)
    (h : ∀ b cap w', Kept Nix w w' → Ch w' w.heap.size 0 [] (.slice (some ⟨b, 0, none⟩) 0 cap) → k ≤ cap → cap ≤ maxLen → wpList Tryz.prog ops Q rest (a.put o.dst (.slice (some ⟨b, 0, none⟩) k cap)) w') : wpList Tryz.prog ops Q (o :: rest) a w := by
  refine wpList_plain hgd fun _ hK => ?_
  obtain ⟨cap, w', hr, h1, h2, h3, h4⟩ := growNil w k h0 hk
  unfold Oper.wp execOp
  simp only [ho, hty, resolve, invoke, builtin, Sem.run_bind, Sem.run_pure, Result.andThen_ok, List.map_toArray, List.map_cons, List.map_nil, hs, hx, hr]
  exact hK _ _ (h _ cap w' h1 h2 h3 h4)
set_option maxRecDepth 100000 in
theorem grow_any (k : Nat) (w : World) (hk : k ≤ 4000000000) : Calls Tryz.prog 56 #[.slice none 0 0, .int .i64 (k : Int)] w (ChQ 0 [] w) := by
  have e1 : decide ((k : Int) < 0) = false := decide_eq_false (by omega)
  have hwr : IntKind.i64.wrap (k : Int) = k := IntWalk.i64_in _ (by omega)
  by_cases h0 : k = 0
  · subst h0
    go_enter Tryz.func56, Tryz.ntmps56
    go_wp2_with fail
    go_ret
    exact ⟨.slice none 0 0, rfl, ⟨_, _, rfl, Win.nil ..⟩, Kept.refl _ _⟩
  · have hp : 0 < k := by omega
    have e3 : decide (0 < k) = true := decide_eq_true hp
    have e2 : decide ((0 : Int) < (k : Int)) = true := decide_eq_true (by omega)
    clear h0
    go_enter Tryz.func56, Tryz.ntmps56
    go_wp2_with (at_builtin; go_loud (refine wpList_grow rfl _ _ rfl rfl rfl k rfl hp hk ?_); rintro b cap w' k1_ c1_ hkc hcm; have HK := Lib.hid k1_; have HC := Lib.hid c1_; clear k1_ c1_)
    go_ret
    exact ⟨_, rfl, HC.out, HK.out⟩

set_option maxRecDepth 100000 in
set_option maxHeartbeats 1000000 in
theorem concat_any (b : Nat) (p q : List ByteArray) (pa la : Option Addr) (pc lc : Nat) (S : Nat → Prop) (w : World) (h0 : w.cell? ⟨b, 0, none⟩ = some (.slice pa p.length pc)) (h1 : w.cell? ⟨b, 1, none⟩ = some (.slice la q.length lc)) (hb : b < w.heap.size)
    (hp : StrsAt w S pa p) (hq : StrsAt w S la q) (hS : Safe S Nix w.heap.size) (hpl : p.length ≤ 1000000000) (hql : q.length ≤ 1000000000) :
    Calls Tryz.prog 27 #[.slice (some ⟨b, 0, none⟩) 2 2] w (ChQ (p.length + q.length) (p.map Value.string ++ q.map Value.string) w) := by
  have HP := Lib.hid hp; have HQ := Lib.hid hq; have HS := Lib.hid hS
  clear hp hq hS
  have w1 : IntKind.i64.wrap ((p.length : Int)) = p.length := IntWalk.i64_in _ (by omega)
  have w2 : IntKind.i64.wrap ((p.length : Int) + q.length) = ((p.length + q.length : Nat) : Int) := IntWalk.i64_in _ (by omega)
  have e1 : decide ((p.length : Int) < 0) = false := decide_eq_false (by omega)
  have e2 : decide (((p.length + q.length : Nat) : Int) < 0) = false := decide_eq_false (by omega)
  obtain ⟨i0, hi0, hz0, hz1, hz2⟩ := info_parts infoStr
  go_enter Tryz.func27, Tryz.ntmps27
  go_wp2_with fail
  go_loop [11, 3] (fun i s => (i = .int .i64 0 ∧ s = .int .i64 0) ∨ (i = .int .i64 1 ∧ s = .int .i64 p.length) ∨ (i = .int .i64 2 ∧ s = .int .i64 (p.length + q.length : Nat))) (fun i s => 2 - (intOf i).toNat)
  case atStart => exact .inl ⟨rfl, rfl⟩
  case round =>
    rcases hrel with ⟨rfl, rfl⟩ | ⟨rfl, rfl⟩ | ⟨rfl, rfl⟩
    · go_wp2_with fail
      go_round
      case rel => exact .inr (.inl ⟨rfl, rfl⟩)
      case measure => simp [intOf]
    · go_wp2_with fail
      go_round
      case rel => exact .inr (.inr ⟨rfl, rfl⟩)
      case measure => simp [intOf]
    · have HG := Lib.hid (grow_any (p.length + q.length) w (by omega))
      go_wp2_with (go_at_call 56; (refine HG.out.mono ?_); rintro e w3 ⟨v3, rfl, ⟨a3, c3, rfl, hw3⟩, k3_⟩; have W3 := Lib.hid hw3; have K3 := Lib.hid k3_; clear hw3 k3_)
      go_loopw [27, 6] (fun i v w' => (i = .int .i64 0 ∧ Ch w' w.heap.size 0 [] v ∧ Kept Nix w w') ∨ (i = .int .i64 1 ∧ Ch w' w.heap.size p.length (p.map Value.string) v ∧ Kept Nix w w') ∨ (i = .int .i64 2 ∧ Ch w' w.heap.size (p.length + q.length) (p.map Value.string ++ q.map Value.string) v ∧ Kept Nix w w')) (fun i _ _ => 2 - (intOf i).toNat)
      case atStart => exact .inl ⟨rfl, ⟨a3, c3, rfl, W3.out⟩, K3.out⟩
      case round =>
        rcases hrel with ⟨rfl, ⟨a4, c4, rfl, hw4⟩, hk4⟩ | ⟨rfl, ⟨a4, c4, rfl, hw4⟩, hk4⟩ | ⟨rfl, ⟨a4, c4, rfl, hw4⟩, hk4⟩
        · have x0 : wr.cell? ⟨b, 0, none⟩ = some (.slice pa p.length pc) := (hk4.cell hb (fun h => h)).trans h0
          have SR := Lib.hid (strs_src (HP.out.to hk4 HS.out (fun _ h => h)) pc)
          have WV := Lib.hid hw4; have KV := Lib.hid hk4
          have hb4 := hk4.size
          clear hw4 hk4
          go_wp2_with (at_builtin; go_loud (refine wpList_append_win _ rfl (.tmp 31) (.tmp 32) 25 25 rfl w.heap.size 9 i0 (.string ⟨#[]⟩) 1 16 Tryz.underlying25 hi0 hz0 hz1 hz2 rfl _ 0 [] rfl WV.out _ p.length (p.map Value.string) rfl SR.out (by unfold maxLen; omega) (by omega) hb4 ?_); intro a5 c5 w5 hW5 hg5 _; have K5 := Lib.hid (KV.out.grown hg5 fun k hk => .inr (WV.out.lt k hk).1))
          go_roundw
          case rel => exact .inr (.inl ⟨rfl, ⟨a5, c5, rfl, by first | exact hW5 | (rw [Nat.zero_add] at hW5; exact hW5)⟩, K5.out⟩)
          case measure => simp [intOf]
        · have x0 : wr.cell? ⟨b, 1, none⟩ = some (.slice la q.length lc) := (hk4.cell hb (fun h => h)).trans h1
          have SR := Lib.hid (strs_src (HQ.out.to hk4 HS.out (fun _ h => h)) lc)
          have WV := Lib.hid hw4; have KV := Lib.hid hk4
          have hb4 := hk4.size
          clear hw4 hk4
          go_wp2_with (at_builtin; go_loud (refine wpList_append_win _ rfl (.tmp 31) (.tmp 32) 25 25 rfl w.heap.size 9 i0 (.string ⟨#[]⟩) 1 16 Tryz.underlying25 hi0 hz0 hz1 hz2 rfl _ p.length (p.map Value.string) rfl WV.out _ q.length (q.map Value.string) rfl SR.out (by unfold maxLen; omega) (by omega) hb4 ?_); intro a5 c5 w5 hW5 hg5 _; have K5 := Lib.hid (KV.out.grown hg5 fun k hk => .inr (WV.out.lt k hk).1))
          go_roundw
          case rel => exact .inr (.inr ⟨rfl, ⟨a5, c5, rfl, hW5⟩, K5.out⟩)
          case measure => simp [intOf]
        · have fin : Hid (ChQ (p.length + q.length) (p.map Value.string ++ q.map Value.string) w (.returned (.slice a4 (p.length + q.length) c4)) wr) := ⟨_, rfl, ⟨a4, c4, rfl, hw4⟩, hk4⟩
          go_wp2_with fail
          go_ret
          exact fin.out
end Go.Proofs.YtlnhcgihpclpaaaGreatDoor

namespace Go.Proofs.YtlnhcgihpclpaaaGreatDoor
set_option linter.all false
open Go.RowKit

section
variable (p : StT → Prop) [DecidablePred p]
def firstP : Nat → List StT → Int
  | _, [] => -1
  | i, s :: r => if p s then (i : Int) else firstP (i + 1) r
def lastP (l : List StT) : Nat → Option Int
  | 0 => none
  | j + 1 => match l[j]? with | some s => if p s then some (j : Int) else lastP l j | none => lastP l j
theorem lastP_none (l : List StT) : ∀ j, lastP p l j = none ↔ ∀ k, k < j → ∀ h : k < l.length, ¬ p l[k]
  | 0 => ⟨fun _ k hk => absurd hk (by omega), fun _ => rfl⟩
  | j + 1 => by
    have ih := lastP_none l j
    rw [lastP]
    by_cases hj : j < l.length
    · rw [List.getElem?_eq_getElem hj]
      by_cases hp : p l[j]
      · simp only [hp, if_true]
        exact ⟨fun h => (by cases h), fun h => absurd hp (h j (by omega) hj)⟩
      · simp only [hp, if_false]
        rw [ih]
        refine ⟨fun h k hk hl => ?_, fun h k hk hl => h k (by omega) hl⟩
        by_cases he : k = j
        · subst he; exact hp
        · exact h k (by omega) hl
    · rw [List.getElem?_eq_none (by omega)]
      show lastP p l j = none ↔ _
      rw [ih]
      exact ⟨fun h k hk hl => h k (by omega) hl, fun h k hk hl => h k (by omega) hl⟩
theorem lastP_some (l : List StT) {d : Int} : ∀ j, lastP p l j = some d → ∃ k : Nat, d = k ∧ k < j ∧ ∃ h : k < l.length, p l[k]
  | 0, h => by cases h
  | j + 1, h => by
    rw [lastP] at h
    by_cases hj : j < l.length
    · rw [List.getElem?_eq_getElem hj] at h
      by_cases hp : p l[j]
      · simp only [hp, if_true, Option.some.injEq] at h
        exact ⟨j, h.symm, by omega, hj, hp⟩
      · simp only [hp, if_false] at h
        obtain ⟨k, h1, h2, h3⟩ := lastP_some l j h
        exact ⟨k, h1, by omega, h3⟩
    · rw [List.getElem?_eq_none (by omega)] at h
      obtain ⟨k, h1, h2, h3⟩ := lastP_some l j h
      exact ⟨k, h1, by omega, h3⟩
theorem firstP_spec : ∀ (l : List StT) (i : Nat), (firstP p i l = -1 ∧ ∀ k (h : k < l.length), ¬ p l[k]) ∨ ∃ k, ∃ h : k < l.length, firstP p i l = ((i + k : Nat) : Int) ∧ p l[k] ∧ ∀ m (hm : m < k), ¬ p (l[m]'(by omega))
  | [], i => .inl ⟨rfl, fun k h => absurd h (by simp)⟩
  | s :: r, i => by
    rw [firstP]
    by_cases hp : p s
    · rw [if_pos hp]; exact .inr ⟨0, by simp, rfl, hp, fun m hm => absurd hm (by omega)⟩
    · rw [if_neg hp]
      rcases firstP_spec r (i + 1) with ⟨h1, h2⟩ | ⟨k, h, h1, h2, h3⟩
      · exact .inl ⟨h1, fun k h => by cases k with | zero => exact hp | succ k => exact h2 k (by simpa using h)⟩
      · refine .inr ⟨k + 1, by simp; omega, by rw [h1]; omega, h2, fun m hm => ?_⟩
        cases m with
        | zero => exact hp
        | succ m => exact h3 m (by omega)
theorem first_eq (l : List StT) (j : Nat) (h : j < l.length) (hp : p l[j]) : firstP p 0 l = j ↔ lastP p l j = none := by
  rw [lastP_none]
  rcases firstP_spec p l 0 with ⟨_, h2⟩ | ⟨k, hk, h1, h2, h3⟩
  · exact absurd hp (h2 j h)
  · rw [h1, Nat.zero_add]
    constructor
    · intro e m hm hl; obtain rfl : k = j := by omega
      exact h3 m hm
    · intro e
      by_cases hkj : k = j
      · rw [hkj]
      · rcases Nat.lt_or_ge k j with h4 | h4
        · exact absurd h2 (e k h4 hk)
        · exact absurd hp (h3 j (by omega))
theorem last_all (l : List StT) (hu : ∀ j (h : j < l.length), p l[j] → firstP p 0 l = j) : lastP p l l.length = if firstP p 0 l < 0 then none else some (firstP p 0 l) := by
  cases hl : lastP p l l.length with
  | none =>
    rw [lastP_none] at hl
    rcases firstP_spec p l 0 with ⟨h1, _⟩ | ⟨k, hk, _, h2, _⟩
    · rw [h1]; rfl
    · exact absurd h2 (hl k hk hk)
  | some d =>
    obtain ⟨k, rfl, _, hk, hp⟩ := lastP_some p l _ hl
    rw [hu k hk hp, if_neg (by omega)]
end
def isL (n : ByteArray) (s : StT) : Prop := s.label = n ∧ n.size ≠ 0
def isF (n : ByteArray) (s : StT) : Prop := s.kind = 7 ∧ s.name = n
instance (n : ByteArray) : DecidablePred (isL n) := fun s => by unfold isL; exact inferInstance
instance (n : ByteArray) : DecidablePred (isF n) := fun s => by unfold isF; exact inferInstance
theorem labelF_first (l : List StT) (n : ByteArray) : labelF l n = firstP (isL n) 0 l := by
  unfold labelF
  generalize 0 = i
  induction l generalizing i with
  | nil => rfl
  | cons s r ih => rw [labelGo, firstP, ih]; rfl
theorem funcF_first (l : List StT) (n : ByteArray) : funcF l n = firstP (isF n) 0 l := by
  unfold funcF
  generalize 0 = i
  induction l generalizing i with
  | nil => rfl
  | cons s r ih => rw [funcGo, firstP, ih]; rfl
/-- The labels of the first j statements; the functions of them. -/
def mapL (l : List StT) : Nat → ByteArray → Option Int
  | 0 => fun _ => none
  | j + 1 => match l[j]? with | some s => if s.label.size = 0 then mapL l j else putM (mapL l j) s.label j | none => mapL l j
def mapN (l : List StT) : Nat → ByteArray → Option Int
  | 0 => fun _ => none
  | j + 1 => match l[j]? with | some s => if s.kind = 7 then putM (mapN l j) s.name j else mapN l j | none => mapN l j
theorem mapL_last (l : List StT) (n : ByteArray) : ∀ j, mapL l j n = lastP (isL n) l j
  | 0 => rfl
  | j + 1 => by
    rw [mapL, lastP]
    cases l[j]? with
    | none => exact mapL_last l n j
    | some s =>
      dsimp only
      by_cases h0 : s.label.size = 0
      · rw [if_pos h0, mapL_last l n j, if_neg (fun h => h.2 (by rw [← h.1]; exact h0))]
      · rw [if_neg h0]
        unfold putM
        by_cases hn : n = s.label
        · rw [if_pos hn, if_pos ⟨hn.symm, by rw [hn]; exact h0⟩]
        · rw [if_neg hn, mapL_last l n j, if_neg (fun h => hn h.1.symm)]
theorem mapN_last (l : List StT) (n : ByteArray) : ∀ j, mapN l j n = lastP (isF n) l j
  | 0 => rfl
  | j + 1 => by
    rw [mapN, lastP]
    cases l[j]? with
    | none => exact mapN_last l n j
    | some s =>
      dsimp only
      by_cases h0 : s.kind = 7
      · rw [if_pos h0]
        unfold putM
        by_cases hn : n = s.name
        · rw [if_pos hn, if_pos ⟨h0, hn.symm⟩]
        · rw [if_neg hn, mapN_last l n j, if_neg (fun h => hn h.2.symm)]
      · rw [if_neg h0, mapN_last l n j, if_neg (fun h => h0 h.1)]
theorem mapL_yes (l : List StT) (j : Nat) (h : j < l.length) (h0 : l[j].label.size ≠ 0) : mapL l (j + 1) = putM (mapL l j) l[j].label j := by
  rw [mapL, List.getElem?_eq_getElem h]; exact if_neg h0
theorem mapL_no (l : List StT) (j : Nat) (h : j < l.length) (h0 : l[j].label.size = 0) : mapL l (j + 1) = mapL l j := by
  rw [mapL, List.getElem?_eq_getElem h]; exact if_pos h0
theorem mapN_yes (l : List StT) (j : Nat) (h : j < l.length) (h0 : l[j].kind = 7) : mapN l (j + 1) = putM (mapN l j) l[j].name j := by
  rw [mapN, List.getElem?_eq_getElem h]; exact if_pos h0
theorem mapN_no (l : List StT) (j : Nat) (h : j < l.length) (h0 : l[j].kind ≠ 7) : mapN l (j + 1) = mapN l j := by
  rw [mapN, List.getElem?_eq_getElem h]; exact if_neg h0
theorem mapN_lt (l : List StT) (j : Nat) (n : ByteArray) (d : Int) (h : mapN l j n = some d) : ∃ k : Nat, d = k ∧ k < l.length := by
  rw [mapN_last] at h
  obtain ⟨k, h1, _, h2, _⟩ := lastP_some _ l j h
  exact ⟨k, h1, h2⟩

/-- A function's own names, as the program lines them up. -/
def own (s : StT) : List ByteArray := s.params ++ s.locals ++ [s.name]
def sIN : ByteArray := ⟨#[73, 78, 80, 85, 84]⟩
def sOUT : ByteArray := ⟨#[79, 85, 84, 80, 85, 84]⟩
def badL (m : ByteArray → Option Int) (s : StT) : Prop := s.label.size ≠ 0 ∧ ((m s.label).isSome = true ∨ keptF s.label = true)
def badN (m : ByteArray → Option Int) (s : StT) : Prop := s.kind = 7 ∧ ((m s.name).isSome = true ∨ 0 ≤ builtinF s.name ∨ ¬ onceP (own s) ∨ sIN ∈ own s ∨ sOUT ∈ own s)
theorem onceP_nodup (l : List ByteArray) : onceP l ↔ l.Nodup := by
  unfold onceP List.Nodup
  rw [List.pairwise_iff_getElem]
  exact ⟨fun h i j hi hj hij e => h j hj i hij e.symm, fun h x hx y hy e => h y x (by omega) hx hy e.symm⟩
theorem toList_lit (x : ByteArray) (a : Array UInt8) : x.toList = a.toList ↔ x = ⟨a⟩ := by
  rw [ByteArray.toList_eq]
  obtain ⟨y⟩ := x
  exact ⟨fun h => congrArg ByteArray.mk (Array.toList_inj.1 h), fun h => (by cases h; rfl)⟩
theorem ownOk_iff (s : StT) : ownOkP (s.name :: s.params ++ s.locals) ↔ onceP (own s) ∧ sIN ∉ own s ∧ sOUT ∉ own s := by
  have hp : List.Perm (s.name :: s.params ++ s.locals) (own s) := by
    show List.Perm (s.name :: (s.params ++ s.locals)) (s.params ++ s.locals ++ [s.name])
    exact (List.perm_append_singleton _ _).symm
  rw [onceP_nodup, ← hp.nodup_iff, ← hp.mem_iff, ← hp.mem_iff, ← onceP_nodup]
  generalize s.name :: s.params ++ s.locals = all
  constructor
  · intro h
    refine ⟨fun x hx y hy => (h x hx).2.2 y hy, fun hm => ?_, fun hm => ?_⟩
    · obtain ⟨i, hi, e⟩ := List.getElem_of_mem hm
      exact (h i hi).1 (by rw [e, ByteArray.toList_eq]; rfl)
    · obtain ⟨i, hi, e⟩ := List.getElem_of_mem hm
      exact (h i hi).2.1 (by rw [e, ByteArray.toList_eq]; rfl)
  · rintro ⟨h1, h2, h3⟩ a ha
    refine ⟨fun e => h2 ?_, fun e => h3 ?_, fun b hb => h1 a ha b hb⟩
    · have := (toList_lit all[a] #[73, 78, 80, 85, 84]).1 e
      show (⟨#[73, 78, 80, 85, 84]⟩ : ByteArray) ∈ all
      rw [← this]; exact List.getElem_mem ha
    · have := (toList_lit all[a] #[79, 85, 84, 80, 85, 84]).1 e
      show (⟨#[79, 85, 84, 80, 85, 84]⟩ : ByteArray) ∈ all
      rw [← this]; exact List.getElem_mem ha
theorem named_iff (l : List StT) (j : Nat) (h : j < l.length) : namedP l j l[j] ↔ ¬ badL (mapL l j) l[j] ∧ ¬ badN (mapN l j) l[j] := by
  have h1 : labelOk l j l[j] ↔ ¬ badL (mapL l j) l[j] := by
    unfold labelOk badL
    by_cases h0 : l[j].label.size = 0
    · simp [h0]
    · have := first_eq (isL l[j].label) l j h ⟨rfl, h0⟩
      rw [labelF_first, this, mapL_last, ← Option.isNone_iff_eq_none, ← Option.not_isSome]
      cases keptF l[j].label <;> cases (lastP (isL l[j].label) l j).isSome <;> simp [h0]
  have h2 : (l[j].kind = 7 → funcOk l j l[j] ∧ ownOkP (l[j].name :: l[j].params ++ l[j].locals)) ↔ ¬ badN (mapN l j) l[j] := by
    unfold badN funcOk
    by_cases h7 : l[j].kind = 7
    · have := first_eq (isF l[j].name) l j h ⟨h7, rfl⟩
      rw [funcF_first, this, mapN_last, ← Option.isNone_iff_eq_none, ← Option.not_isSome, ownOk_iff]
      generalize (lastP (isF l[j].name) l j).isSome = b
      constructor
      · rintro h ⟨_, h3⟩
        obtain ⟨⟨h4, h5⟩, h6, h8, h9⟩ := h h7
        rcases h3 with h3 | h3 | h3 | h3 | h3
        · rw [h3] at h5; cases h5
        · omega
        · exact h3 h6
        · exact h8 h3
        · exact h9 h3
      · intro h _
        have h' : ¬ (b = true ∨ 0 ≤ builtinF l[j].name ∨ ¬ onceP (own l[j]) ∨ sIN ∈ own l[j] ∨ sOUT ∈ own l[j]) := fun e => h ⟨h7, e⟩
        refine ⟨⟨by have : ¬ 0 ≤ builtinF l[j].name := fun e => h' (.inr (.inl e)); omega, ?_⟩, Classical.byContradiction fun e => h' (.inr (.inr (.inl e))), fun e => h' (.inr (.inr (.inr (.inl e)))), fun e => h' (.inr (.inr (.inr (.inr e))))⟩
        cases b with
        | true => exact absurd (.inl rfl) h'
        | false => rfl
    · simp [h7]
  unfold namedP
  rw [h1, h2]
end Go.Proofs.YtlnhcgihpclpaaaGreatDoor

namespace Go.Proofs.YtlnhcgihpclpaaaGreatDoor
set_option linter.all false
open Go.RowKit

theorem wrGo_drop (l : List StT) (j : Nat) (h : j < l.length) : wrGo j (l.drop j) = if wrongS l[j] = 0 then wrGo (j + 1) (l.drop (j + 1)) else some (wrongS l[j], j) := by
  rw [List.drop_eq_getElem_cons h, wrGo]
theorem nmGo_yes (l : List StT) (j : Nat) (h : j < l.length) (hn : namedP l j l[j]) : nmGo l j (l.drop j) = nmGo l (j + 1) (l.drop (j + 1)) := by
  rw [List.drop_eq_getElem_cons h, nmGo, if_pos hn]
theorem nmGo_no (l : List StT) (j : Nat) (h : j < l.length) (hn : ¬ namedP l j l[j]) : nmGo l j (l.drop j) = some (7, j) := by
  rw [List.drop_eq_getElem_cons h, nmGo, if_neg hn]
theorem usGo_drop (l : List StT) (j : Nat) (h : j < l.length) : usGo l j (l.drop j) = if usesF l l[j] = 0 then usGo l (j + 1) (l.drop (j + 1)) else some (usesF l l[j], j) := by
  rw [List.drop_eq_getElem_cons h, usGo]
theorem check_wr {l : List StT} (hl : ¬ 1000 < l.length) {r : Int × Nat} (h : wrGo 0 l = some r) : checkF l = r := by unfold checkF; rw [if_neg hl, h]; rfl
theorem check_nm {l : List StT} (hl : ¬ 1000 < l.length) (h0 : wrGo 0 l = none) {r : Int × Nat} (h : nmGo l 0 l = some r) : checkF l = r := by unfold checkF; rw [if_neg hl, h0, h]; rfl
theorem check_us {l : List StT} (hl : ¬ 1000 < l.length) (h0 : wrGo 0 l = none) (h1 : nmGo l 0 l = none) {r : Int × Nat} (h : usGo l 0 l = some r) : checkF l = r := by unfold checkF; rw [if_neg hl, h0, h1, h]; rfl
theorem check_ok {l : List StT} (hl : ¬ 1000 < l.length) (h0 : wrGo 0 l = none) (h1 : nmGo l 0 l = none) (h : usGo l 0 l = none) : checkF l = (0, 0) := by unfold checkF; rw [if_neg hl, h0, h1, h]; rfl

end Go.Proofs.YtlnhcgihpclpaaaGreatDoor
