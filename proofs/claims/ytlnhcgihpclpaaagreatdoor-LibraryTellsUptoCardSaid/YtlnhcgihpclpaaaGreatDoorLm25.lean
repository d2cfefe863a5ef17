/- syntax.node: what is wrong with an expression's nodes. syntax.Expr: how many nodes, how deep; what is wrong with an expression. syntax.named, syntax.target, and the document's target. A list of faults: append to it. -/
import Derived.Test.YtlnhcgihpclpaaaGreatDoorLm10
import Derived.Test.YtlnhcgihpclpaaaGreatDoorLm3
import Derived.Deep.RegionWith
import Derived.Test.YtlnhcgihpclpaaaGreatDoorLm11
import Derived.Test.YtlnhcgihpclpaaaGreatDoorLm8
import Derived.BigQuiet
import Derived.Test.YtlnhcgihpclpaaaGreatDoorOrd
import Derived.Test.YtlnhcgihpclpaaaGreatDoorLm1
namespace Go.Proofs.YtlnhcgihpclpaaaGreatDoor
set_option linter.all false
open Go.RowKit

/-- What is wrong with a node, its kids left out. -/
def headE (k : Int) (t : ByteArray) (n : Int) (nm : ByteArray) : Int :=
  if k < 1 ∨ 13 < k then 1
  else if k = 1 ∧ 65536 < t.size then 4
  else if k = 2 ∧ n < 0 then 3
  else if (k = 3 ∨ k = 4 ∨ k = 6) ∧ namedF nm = false then 7 else 0
theorem ownE_eq (k : Int) (t : ByteArray) (n : Int) (nm : ByteArray) (len : Nat) : ownE k t n nm len = if headE k t n nm = 0 then (if (k = 6 ∧ 8 < len) ∨ (k ≠ 6 ∧ (len : Int) ≠ exKids k) then 5 else 0) else headE k t n nm := by
  unfold ownE headE
  split
  · simp
  · split
    · simp
    · split
      · simp
      · split <;> simp
theorem nodeE_head {k : Int} {t : ByteArray} {n : Int} {nm : ByteArray} {kids : List PatT} {e : Int} (h : headE k t n nm = e) (he : e ≠ 0) : nodeE (.mk k t n nm kids) = e := by
  rw [nodeE, ownE_eq, h, if_neg he, if_neg he]
theorem nodeE_five {k : Int} {t : ByteArray} {n : Int} {nm : ByteArray} {kids : List PatT} (h : headE k t n nm = 0) (hc : (k = 6 ∧ 8 < kids.length) ∨ (k ≠ 6 ∧ (kids.length : Int) ≠ exKids k)) : nodeE (.mk k t n nm kids) = 5 := by
  rw [nodeE, ownE_eq, if_pos h, if_pos hc]; rfl
theorem nodeE_kids {k : Int} {t : ByteArray} {n : Int} {nm : ByteArray} {kids : List PatT} (h : headE k t n nm = 0) (hc : ¬ ((k = 6 ∧ 8 < kids.length) ∨ (k ≠ 6 ∧ (kids.length : Int) ≠ exKids k))) : nodeE (.mk k t n nm kids) = nodesE kids := by
  rw [nodeE, ownE_eq, if_pos h, if_neg hc]; rfl
section
variable {k n : Int} {t nm : ByteArray}
theorem hd_kind (h : k < 1 ∨ 13 < k) : headE k t n nm = 1 := by unfold headE; rw [if_pos h]
theorem hd_text (h : k = 1) (hs : 65536 < t.size) : headE k t n nm = 4 := by unfold headE; rw [if_neg (by omega), if_pos ⟨h, hs⟩]
theorem hd_num (h : k = 2) (hs : n < 0) : headE k t n nm = 3 := by unfold headE; rw [if_neg (by omega), if_neg (by omega), if_pos ⟨h, hs⟩]
theorem hd_name (h : k = 3 ∨ k = 4 ∨ k = 6) (hs : namedF nm = false) : headE k t n nm = 7 := by unfold headE; rw [if_neg (by omega), if_neg (by omega), if_neg (by omega), if_pos ⟨h, hs⟩]
theorem ok_text (h : k = 1) (hs : ¬ 65536 < t.size) : headE k t n nm = 0 := by unfold headE; rw [if_neg (by omega), if_neg (by omega), if_neg (by omega), if_neg (by omega)]
theorem ok_num (h : k = 2) (hs : ¬ n < 0) : headE k t n nm = 0 := by unfold headE; rw [if_neg (by omega), if_neg (by omega), if_neg (by omega), if_neg (by omega)]
theorem ok_name (h : k = 3 ∨ k = 4 ∨ k = 6) (hs : namedF nm = true) : headE k t n nm = 0 := by unfold headE; rw [if_neg (by omega), if_neg (by omega), if_neg (by omega), if_neg (by simp [hs])]
theorem ok_other (h : k = 5 ∨ (7 ≤ k ∧ k ≤ 13)) : headE k t n nm = 0 := by unfold headE; rw [if_neg (by omega), if_neg (by omega), if_neg (by omega), if_neg (by omega)]
theorem m_text (h : (k == 1) = true) (hs : (t.size : Int) ≤ 65536) : Value.int .i64 0 = Value.int .i64 (exKids k) ∧ headE k t n nm = 0 := by
  obtain rfl : k = 1 := by simpa using h
  exact ⟨rfl, ok_text rfl (by omega)⟩
theorem m_num (h : (k == 2) = true) (hs : 0 ≤ n) : Value.int .i64 0 = Value.int .i64 (exKids k) ∧ headE k t n nm = 0 := by
  obtain rfl : k = 2 := by simpa using h
  exact ⟨rfl, ok_num rfl (by omega)⟩
theorem m_3 (h : (k == 3) = true) (hs : (!namedF nm) = false) : Value.int .i64 0 = Value.int .i64 (exKids k) ∧ headE k t n nm = 0 := by
  obtain rfl : k = 3 := by simpa using h
  exact ⟨rfl, ok_name (.inl rfl) (by simpa using hs)⟩
theorem m_4 (h : (k == 4) = true) (hs : (!namedF nm) = false) : Value.int .i64 1 = Value.int .i64 (exKids k) ∧ headE k t n nm = 0 := by
  obtain rfl : k = 4 := by simpa using h
  exact ⟨rfl, ok_name (.inr (.inl rfl)) (by simpa using hs)⟩
theorem m_6 (h : (k == 6) = true) (hs : (!namedF nm) = false) : Value.int .i64 0 = Value.int .i64 (exKids k) ∧ headE k t n nm = 0 := by
  obtain rfl : k = 6 := by simpa using h
  exact ⟨rfl, ok_name (.inr (.inr rfl)) (by simpa using hs)⟩
theorem m_one (h : (k == 5) = true ∨ (k == 7) = true) : Value.int .i64 1 = Value.int .i64 (exKids k) ∧ headE k t n nm = 0 := by
  simp only [beq_iff_eq] at h
  rcases h with rfl | rfl <;> exact ⟨rfl, ok_other (by omega)⟩
theorem m_two (h : (k == 8) = true ∨ (k == 9) = true ∨ (k == 10) = true ∨ (k == 11) = true ∨ (k == 12) = true ∨ (k == 13) = true) : Value.int .i64 2 = Value.int .i64 (exKids k) ∧ headE k t n nm = 0 := by
  simp only [beq_iff_eq] at h
  rcases h with rfl | rfl | rfl | rfl | rfl | rfl <;> exact ⟨rfl, ok_other (by omega)⟩
theorem q_text (kids : List PatT) (h : (k == 1) = true) (hs : 65536 < (t.size : Int)) : 4 = nodeE (.mk k t n nm kids) := (nodeE_head (hd_text (by simpa using h) (by omega)) (by decide)).symm
theorem q_num (kids : List PatT) (h : (k == 2) = true) (hs : n < 0) : 3 = nodeE (.mk k t n nm kids) := (nodeE_head (hd_num (by simpa using h) hs) (by decide)).symm
theorem q_name (kids : List PatT) (h : (k == 3) = true ∨ (k == 4) = true ∨ (k == 6) = true) (hs : (!namedF nm) = true) : 7 = nodeE (.mk k t n nm kids) := by
  simp only [beq_iff_eq] at h
  exact (nodeE_head (hd_name h (by simpa using hs)) (by decide)).symm
end

set_option maxRecDepth 100000 in
set_option maxHeartbeats 1000000 in
theorem nodeE_any : ∀ (m : Nat) (p : PatT) (b o : Nat) (S : Nat → Prop) (w : World), sizeT p ≤ m → PatAt w S b o p →
    Calls Tryz.prog 72 #[.pointer (some ⟨b, o, none⟩)] w fun e w' => e = .returned (.int .i64 (nodeE p)) ∧ w = w' := by
  intro m
  induction m with
  | zero => intro p b o S w hm; have := sizeT_pos p; omega
  | succ m ih =>
  intro p b o S w hm hp
  obtain ⟨k, t, n, nm, kids⟩ := p
  unfold PatAt at hp
  obtain ⟨_, ⟨ht, hn0, hk⟩, h0, h1, h2, h3, ka, cap, h4, hks⟩ := hp
  have hn : nm.size ≤ maxLen := by unfold maxLen; omega
  have HK := Lib.hid hks; clear hks
  have hih : ∀ (j : Nat) (hj : j < kids.length) (b o : Nat) (w : World), PatAt w S b o kids[j] → Calls Tryz.prog 72 #[.pointer (some ⟨b, o, none⟩)] w fun e w' => e = .returned (.int .i64 (nodeE kids[j])) ∧ w = w' :=
    fun j hj b o w h => ih kids[j] b o S w (by have := sizeT_get kids j hj; simp only [sizeT] at hm; omega) h
  have HIH := Lib.hid hih; clear hih ih hm
  by_cases hk0 : k < 1 ∨ 13 < k
  · have hr := nodeE_head (kids := kids) (hd_kind (t := t) (n := n) (nm := nm) hk0) (by decide)
    have HR := Lib.hid hr
    have e1 : (k == 1) = false := by simp; omega
    have e2 : (k == 2) = false := by simp; omega
    have e3 : (k == 3) = false := by simp; omega
    have e4 : (k == 4) = false := by simp; omega
    have e5 : (k == 5) = false := by simp; omega
    have e6 : (k == 6) = false := by simp; omega
    have e7 : (k == 7) = false := by simp; omega
    have e8 : (k == 8) = false := by simp; omega
    have e9 : (k == 9) = false := by simp; omega
    have e10 : (k == 10) = false := by simp; omega
    have e11 : (k == 11) = false := by simp; omega
    have e12 : (k == 12) = false := by simp; omega
    have e13 : (k == 13) = false := by simp; omega
    clear hr hk0 h1 h2 h3 h4
    go_enter Tryz.func72, Tryz.ntmps72
    go_wp2_with fail
    go_ret
    exact ⟨by rw [HR.out]; try rfl, rfl⟩
  go_enter Tryz.func72, Tryz.ntmps72
  go_upto_block 0 with fail
  go_cut [3] (fun l w' => w = w' ∧ l = .int .i64 (exKids k) ∧ headE k t n nm = 0)
  case first =>
    go_wp2_with (go_at_call 51; refine (named_any _ _ hn).mono ?_; rintro e w' ⟨rfl, rfl⟩)
    all_goals
      first
        | (go_meet; go_light; refine ⟨rfl, ?_⟩; first
            | exact m_text ‹(k == 1) = true› ‹_›
            | exact m_num ‹(k == 2) = true› ‹_›
            | exact m_3 ‹(k == 3) = true› ‹_›
            | exact m_4 ‹(k == 4) = true› ‹_›
            | exact m_6 ‹(k == 6) = true› ‹_›
            | exact m_one (.inl ‹(k == 5) = true›)
            | exact m_one (.inr ‹(k == 7) = true›)
            | exact m_two (.inl ‹(k == 8) = true›)
            | exact m_two (.inr (.inl ‹(k == 9) = true›))
            | exact m_two (.inr (.inr (.inl ‹(k == 10) = true›)))
            | exact m_two (.inr (.inr (.inr (.inl ‹(k == 11) = true›))))
            | exact m_two (.inr (.inr (.inr (.inr (.inl ‹(k == 12) = true›)))))
            | exact m_two (.inr (.inr (.inr (.inr (.inr ‹(k == 13) = true›))))))
        | (go_ret; go_light; refine ⟨ret_int ?_, rfl⟩; first
            | exact q_text kids ‹(k == 1) = true› ‹_›
            | exact q_num kids ‹(k == 2) = true› ‹_›
            | exact q_name kids (.inl ‹(k == 3) = true›) ‹_›
            | exact q_name kids (.inr (.inl ‹(k == 4) = true›)) ‹_›
            | exact q_name kids (.inr (.inr ‹(k == 6) = true›)) ‹_›)
  case rest =>
    obtain ⟨rfl, rfl, hc⟩ := hcut
    have hx : exKids k ≤ 2 ∧ 0 ≤ exKids k := by unfold exKids; split <;> (try split) <;> omega
    by_cases h5 : (k = 6 ∧ 8 < kids.length) ∨ (k ≠ 6 ∧ (kids.length : Int) ≠ exKids k)
    · have hr := nodeE_five hc h5
      have HR := Lib.hid hr
      clear hr hc
      rcases h5 with ⟨a, c⟩ | ⟨a, c⟩
      · have e1 : (k == 6) = true := by simpa using a
        have e2 : decide ((8 : Int) < (kids.length : Int)) = true := decide_eq_true (by omega)
        clear a c
        go_wp2_with fail
        go_ret
        exact ⟨by rw [HR.out]; try rfl, rfl⟩
      · have e1 : (k == 6) = false := by simpa using a
        have e2 : (k != 6) = true := by simpa using a
        have e3 : ((kids.length : Int) != exKids k) = true := by simpa using c
        clear a c
        go_wp2_with fail
        go_ret
        exact ⟨by rw [HR.out]; try rfl, rfl⟩
    · have hr := nodeE_kids hc h5
      have HR := Lib.hid hr
      have hz : (k = 6 ∧ ((k == 6) = true) ∧ (k != 6) = false ∧ decide ((8 : Int) < (kids.length : Int)) = false) ∨ (k ≠ 6 ∧ ((k == 6) = false) ∧ (k != 6) = true ∧ ((kids.length : Int) != exKids k) = false) := by
        by_cases h6 : k = 6
        · exact .inl ⟨h6, by simpa using h6, by simpa using h6, decide_eq_false (by omega)⟩
        · exact .inr ⟨h6, by simpa using h6, by simpa using h6, by simp; omega⟩
      clear hr hc h5 h1 h2 h3
      rcases hz with ⟨rfl, e1, e2, e3⟩ | ⟨_, e1, e2, e3⟩
      all_goals
        go_wp2_with fail
        go_loop [84] (fun i => ∃ j : Nat, j ≤ kids.length ∧ i = .int .i64 j ∧ Hid (nodesE kids = nodesE (kids.drop j))) (fun i => kids.length - (intOf i).toNat)
        case atStart => exact ⟨0, Nat.zero_le _, rfl, by unfold Hid; rw [List.drop_zero]⟩
        case round =>
          obtain ⟨j, hj, rfl, hno⟩ := hrel
          by_cases hlt : j < kids.length
          · obtain ⟨b1, o1, rfl⟩ := PatsAt_head HK.out (by omega)
            have hP := Lib.hid (PatsAt_get kids b1 o1 j hlt HK.out)
            have hd := nodesE_drop kids j hlt
            by_cases hz : nodeE kids[j] = 0
            · rw [if_pos hz] at hd
              have step := Lib.hid (hno.out.trans hd)
              have hb : (nodeE kids[j] != 0) = false := by simpa using hz
              clear hd hz
              go_wp2_with (go_at_call 72; refine (HIH.out j hlt _ _ _ hP.out).mono ?_; rintro e w' ⟨rfl, rfl⟩)
              go_round
              case rel => exact ⟨j + 1, by omega, by go_num, step⟩
              case measure => simp [intOf]; omega
            · rw [if_neg hz] at hd
              have fin := Lib.hid (HR.out.trans (hno.out.trans hd))
              have hb : (nodeE kids[j] != 0) = true := by simpa using hz
              clear hd hz
              go_wp2_with (go_at_call 72; refine (HIH.out j hlt _ _ _ hP.out).mono ?_; rintro e w' ⟨rfl, rfl⟩)
              go_ret
              exact ⟨by rw [fin.out]; try rfl, rfl⟩
          · obtain rfl : j = kids.length := by omega
            have fin := Lib.hid (HR.out.trans (hno.out.trans (show nodesE (kids.drop kids.length) = 0 by rw [List.drop_length, nodesE])))
            go_wp2_with fail
            go_ret
            exact ⟨by rw [fin.out]; try rfl, rfl⟩
end Go.Proofs.YtlnhcgihpclpaaaGreatDoor

namespace Go.Proofs.YtlnhcgihpclpaaaGreatDoor
set_option linter.all false
open Go.RowKit

mutual
/-- How the program counts: up to what is too much. -/
def lookF (n : Nat) : PatT → Nat → Nat × Bool
  | .mk _ _ _ _ kids, d => if n + 1 ≤ 4096 ∧ d ≤ 200 then lookL (n + 1) kids (d + 1) else (n + 1, false)
def lookL (n : Nat) : List PatT → Nat → Nat × Bool
  | [], _ => (n, true)
  | p :: r, d => if (lookF n p d).2 = true then lookL (lookF n p d).1 r d else ((lookF n p d).1, false)
end
mutual
theorem look_size : ∀ (p : PatT) (n d : Nat), n ≤ 4096 →
    (n + sizeT p ≤ 4096 ∧ d + depthT p ≤ 201 → lookF n p d = (n + sizeT p, true)) ∧ (¬ (n + sizeT p ≤ 4096 ∧ d + depthT p ≤ 201) → (lookF n p d).2 = false)
  | .mk k t n' nm kids, n, d, hn => by
    rw [sizeT, depthT, lookF]
    by_cases h1 : n + 1 ≤ 4096 ∧ d ≤ 200
    · obtain ⟨a, b⟩ := lookL_size kids (n + 1) (d + 1) h1.1 (by omega)
      rw [if_pos h1]
      refine ⟨fun h => ?_, fun h => b (by omega)⟩
      rw [a (by omega)]
      exact Prod.ext (by dsimp only; omega) rfl
    · rw [if_neg h1]
      exact ⟨fun h => absurd h (by omega), fun _ => rfl⟩
theorem lookL_size : ∀ (l : List PatT) (n d : Nat), n ≤ 4096 → d ≤ 201 →
    (n + sizeL l ≤ 4096 ∧ d + depthL l ≤ 201 → lookL n l d = (n + sizeL l, true)) ∧ (¬ (n + sizeL l ≤ 4096 ∧ d + depthL l ≤ 201) → (lookL n l d).2 = false)
  | [], n, d, hn, hd => by
    rw [lookL, sizeL, depthL]
    exact ⟨fun _ => rfl, fun h => absurd (by omega) h⟩
  | p :: r, n, d, hn, hd => by
    obtain ⟨a, b⟩ := look_size p n d hn
    rw [lookL, sizeL, depthL]
    by_cases h1 : n + sizeT p ≤ 4096 ∧ d + depthT p ≤ 201
    · obtain ⟨x, y⟩ := lookL_size r (n + sizeT p) d h1.1 hd
      rw [a h1, if_pos rfl]
      refine ⟨fun h => ?_, fun h => y (by omega)⟩
      rw [x (by omega)]
      exact Prod.ext (by dsimp only; omega) rfl
    · rw [b h1]
      exact ⟨fun h => absurd h (by omega), fun _ => rfl⟩
end
theorem look_fits (p : PatT) : (lookF 0 p 1).2 = decide (fits p) := by
  obtain ⟨a, b⟩ := look_size p 0 1 (by omega)
  by_cases h : fits p
  · have h' := h; unfold fits at h'
    rw [a (by omega), decide_eq_true h]
  · have h' := h; unfold fits at h'
    rw [b (by omega), decide_eq_false h]
theorem look_le (p : PatT) (n d : Nat) (hn : n ≤ 4096) (h : (lookF n p d).2 = true) : (lookF n p d).1 ≤ 4096 := by
  obtain ⟨a, b⟩ := look_size p n d hn
  by_cases h1 : n + sizeT p ≤ 4096 ∧ d + depthT p ≤ 201
  · rw [a h1]; exact h1.1
  · rw [b h1] at h; cases h
theorem lookL_drop (l : List PatT) (n d j : Nat) (h : j < l.length) : lookL n (l.drop j) d = if (lookF n l[j] d).2 = true then lookL (lookF n l[j] d).1 (l.drop (j + 1)) d else ((lookF n l[j] d).1, false) := by
  rw [List.drop_eq_getElem_cons h, lookL]

def errN (b : Bool) : Int := if b = true then 0 else 4
def LookPost (c1 : Nat) (r : Nat × Bool) (w : World) (e : Ending) (w' : World) : Prop :=
  e = .returned (.int .i64 (errN r.2)) ∧ Cel w' c1 3 (.int .i64 r.1) ∧ Kept (· = c1) w w'
def lookV (c1 c2 : Nat) : Value := .func (.func 71) #[] #[.pointer (some ⟨c1, 0, none⟩), .pointer (some ⟨c2, 0, none⟩)]

set_option maxRecDepth 100000 in
set_option maxHeartbeats 2000000 in
theorem look_any (c1 c2 : Nat) (T : TypeId) (hne : c2 ≠ c1) (S : Nat → Prop) : ∀ (m : Nat) (p : PatT) (n b o d : Nat) (w : World), sizeT p ≤ m → n ≤ 4096 → d ≤ 201 →
    Cel w c1 3 (.int .i64 n) → Cel w c2 T (lookV c1 c2) → PatAt w S b o p → Safe S (· = c1) w.heap.size →
    Calls Tryz.prog 71 #[.pointer (some ⟨b, o, none⟩), .int .i64 d, .pointer (some ⟨c1, 0, none⟩), .pointer (some ⟨c2, 0, none⟩)] w (LookPost c1 (lookF n p d) w) := by
  intro m
  induction m with
  | zero => intro p n b o d w hm; have := sizeT_pos p; omega
  | succ m ih =>
  intro p n b o d w hm hn hd h1 h2 hp hS
  obtain ⟨k, t, n', nm, kids⟩ := p
  have hc1 := h1.cell
  have hf1 := h1.free
  have kA : Kept (· = c1) w (w.setCell ⟨c1, 0, none⟩ (.int .i64 ((n : Int) + 1))) := (Kept.refl (· = c1) w).setCell (.inl rfl) _
  obtain ⟨w1, hw1⟩ : ∃ w1, w1 = w.setCell ⟨c1, 0, none⟩ (.int .i64 ((n : Int) + 1)) := ⟨_, rfl⟩
  have C1 : Hid (Cel w1 c1 3 (.int .i64 ((n + 1 : Nat) : Int))) := by rw [hw1]; exact h1.set _
  rw [← hw1] at kA
  have HW1 := Lib.hid hw1; clear hw1
  by_cases h4 : 4096 < n + 1
  · have hr : Hid (lookF n (.mk k t n' nm kids) d = (n + 1, false)) := by unfold Hid; rw [lookF, if_neg (by omega)]
    have hc2 := C1.out.cell
    go_enter Tryz.func71, Tryz.ntmps71
    go_upto_region 2 with fail
    rw [← HW1.out]
    go_wp2_with fail
    go_ret
    exact ⟨by rw [hr.out]; rfl, by rw [hr.out]; exact C1.out, kA⟩
  by_cases h5 : 200 < d
  · have hr : Hid (lookF n (.mk k t n' nm kids) d = (n + 1, false)) := by unfold Hid; rw [lookF, if_neg (by omega)]
    have hc2 := C1.out.cell
    have hb : decide ((4096 : Int) < ((n + 1 : Nat) : Int)) = false := decide_eq_false (by omega)
    go_enter Tryz.func71, Tryz.ntmps71
    go_upto_region 2 with fail
    rw [← HW1.out]
    go_wp2_with fail
    go_ret
    exact ⟨by rw [hr.out]; rfl, by rw [hr.out]; exact C1.out, kA⟩
  have hr : Hid (lookF n (.mk k t n' nm kids) d = lookL (n + 1) kids (d + 1)) := by unfold Hid; rw [lookF, if_pos (by omega)]
  have hc2 := C1.out.cell
  have hb : decide ((4096 : Int) < ((n + 1 : Nat) : Int)) = false := decide_eq_false (by omega)
  have hsz : ∀ j (hj : j < kids.length), sizeT kids[j] ≤ m := by intro j hj; have h := sizeT_get kids j hj; simp only [sizeT] at hm; omega
  have HP := Lib.hid hp
  have C2 := Lib.hid h2
  have hpk := hp.kept kA hS
  unfold PatAt at hpk
  obtain ⟨_, ⟨_, _, hkl⟩, _, _, _, _, ka, cap, q4, _⟩ := hpk
  have KA := Lib.hid kA; have HS := Lib.hid hS
  clear hp hm kA h1 h2 hS
  go_enter Tryz.func71, Tryz.ntmps71
  go_upto_region 2 with fail
  rw [← HW1.out]
  clear hc1 hf1
  go_wp2_with fail
  go_loopw [22] (fun i wr => ∃ (j n2 : Nat), j ≤ kids.length ∧ i = .int .i64 j ∧ n2 ≤ 4096 ∧ Hid (lookF n (.mk k t n' nm kids) d = lookL n2 (kids.drop j) (d + 1)) ∧ Cel wr c1 3 (.int .i64 n2) ∧ Kept (· = c1) w wr) (fun i _ => kids.length - (intOf i).toNat)
  case atStart => exact ⟨0, n + 1, Nat.zero_le _, rfl, by omega, by unfold Hid; rw [hr.out, List.drop_zero], C1.out, KA.out⟩
  case round =>
    obtain ⟨j, n2, hj, rfl, hn2, hno, hcc, hkw⟩ := hrel
    have CC := Lib.hid hcc; have KW := Lib.hid hkw
    by_cases hlt : j < kids.length
    · have hpk := HP.out.kept hkw HS.out
      unfold PatAt at hpk
      obtain ⟨_, _, _, _, _, _, ka', cap', q5, hks⟩ := hpk
      obtain ⟨b1, o1, rfl⟩ := PatsAt_head hks (by omega)
      have hP := Lib.hid ((PatsAt_get kids b1 o1 j hlt hks).kept (Kept.refl (· = c1) _).drew (HS.out.mono hkw.size))
      have e2 := (C2.out.kept hkw hne).cell
      unfold lookV at e2
      have hS2 : Hid (Safe S (· = c1) wr.drew.heap.size) := HS.out.mono hkw.size
      have hszj := hsz j hlt
      have hdr := Lib.hid (lookL_drop kids n2 (d + 1) j hlt)
      have hwr : IntKind.i64.wrap ((d : Int) + 1) = (d : Int) + 1 := IntWalk.i64_in _ (by omega)
      clear hks hcc hkw
      go_upto_region 7 with fail
      go_cut [8] (fun r wx => LookPost c1 (lookF n2 kids[j] (d + 1)) wr (.returned r) wx)
      case first =>
        go_region_with (go_at_call 71; rw [show (d : Int) + 1 = ((d + 1 : Nat) : Int) from rfl]; (with_reducible refine (ih kids[j] n2 b1 (o1 + j * 5) (d + 1) _ hszj hn2 (by omega) CC.out.drew (C2.out.kept KW.out hne).drew hP.out hS2.out).mono ?_); rintro e w2 ⟨rfl, x_, y_⟩; have X2 := Lib.hid x_; have Y2 := Lib.hid y_; clear x_ y_)
        all_goals (go_wp2_with fail; go_meet; exact ⟨rfl, X2.out, (Kept.refl (· = c1) wr).drew.trans Y2.out⟩)
      case rest =>
        obtain ⟨hr0, hx2, hy2⟩ := hcut
        have X2 := Lib.hid hx2; have Y2 := Lib.hid hy2
        simp only [Ending.returned.injEq] at hr0
        subst hr0
        clear hx2 hy2
        by_cases hz : (lookF n2 kids[j] (d + 1)).2 = true
        · have hle := look_le kids[j] n2 (d + 1) hn2 hz
          have hd2 := hdr.out
          rw [if_pos hz] at hd2
          have step := Lib.hid (hno.out.trans hd2)
          have hbb : (errN (lookF n2 kids[j] (d + 1)).2 != 0) = false := by rw [hz]; rfl
          clear hd2 hz
          go_wp2_with fail
          go_roundw
          case rel => exact ⟨j + 1, _, by omega, by go_num, hle, step, X2.out, KW.out.trans Y2.out⟩
          case measure => simp [intOf]; omega
        · have hz' : (lookF n2 kids[j] (d + 1)).2 = false := by simpa using hz
          have hd2 := hdr.out
          rw [if_neg hz] at hd2
          have fin := Lib.hid (hno.out.trans hd2)
          have hbb : (errN (lookF n2 kids[j] (d + 1)).2 != 0) = true := by rw [hz']; rfl
          have HZ := Lib.hid hz'
          clear hd2 hz hz'
          go_wp2_with fail
          go_ret
          exact ⟨by rw [fin.out, HZ.out]; try rfl, by rw [fin.out]; exact X2.out, KW.out.trans Y2.out⟩
    · obtain rfl : j = kids.length := by omega
      have fin : Hid (lookF n (.mk k t n' nm kids) d = (n2, true)) := by unfold Hid; rw [hno.out, List.drop_length, lookL]
      go_wp2_with fail
      go_ret
      exact ⟨by rw [fin.out]; try rfl, by rw [fin.out]; exact CC.out, KW.out⟩

theorem exprE_ok {p : PatT} (h : (lookF 0 p 1).2 = true) : exprE p = nodeE p := by
  rw [look_fits, decide_eq_true_eq] at h
  unfold exprE; rw [if_pos h]
theorem exprE_no {p : PatT} (h : (lookF 0 p 1).2 = false) : exprE p = 4 := by
  rw [look_fits, decide_eq_false_iff_not] at h
  unfold exprE; rw [if_neg h]
set_option maxRecDepth 100000 in
set_option maxHeartbeats 2000000 in
theorem Expr_any (p : PatT) (v : Value) (S : Nat → Prop) (w : World) (hp : PatV w S v p) (hS : Safe S Nix w.heap.size) (hsz : sizeT p ≤ 100000000) : Calls Tryz.prog 52 #[v] w (IntQ (exprE p) w) := by
  obtain ⟨c, hv, hb⟩ := hp.box 44 (fun b hb => (hS b hb).1)
  obtain ⟨ka, cap, rfl, hz, hk⟩ := hp
  simp only [Value.agg.injEq] at hv; subst hv
  have hmf : ∀ (fn : Fn) (first cap : Array Value) (w : World), (Instr.makeFunc fn first cap).run Tryz.prog w = .ok (.func fn first cap) w := fun _ _ _ _ => rfl
  have hst : ∀ (a : Addr) (fn : Fn) (first cap : Array Value) (m : Mode) (w : World), (store a (.func fn first cap) m).run Tryz.prog w = stored Tryz.prog w a (.func fn first cap) m := fun _ _ _ _ _ _ => run_store _ _ _ _ _ rfl
  obtain ⟨w1, hw1⟩ : ∃ w1, w1 = (w.alloc (.cells #[.int .i64 p.kind, .string p.text, .int .i64 p.n, .string p.name, .slice ka p.kids.length cap] 44)) := ⟨_, rfl⟩
  rw [← hw1] at hb
  have hs1 : w1.heap.size = w.heap.size + 1 := by rw [hw1]; simp
  obtain ⟨w3, hw3⟩ : ∃ w3, w3 = (w1.alloc (.cells #[.int .i64 0] 3)).alloc (.cells #[lookV (w.heap.size + 1) (w.heap.size + 1 + 1)] 112) := ⟨_, rfl⟩
  have k1 : Kept Nix w w1 := by rw [hw1]; exact (Kept.refl Nix _).alloc _
  have k3 : Kept Nix w1 w3 := by rw [hw3]; exact ((Kept.refl Nix _).alloc _).alloc _
  have B3 : Hid (PatAt w3 (fun b => S b ∨ b = w.heap.size) w.heap.size 0 p) := hb.kept k3 (fun b hb => ⟨by rcases hb with hb | rfl; (have := (hS b hb).1; omega); omega, fun h => h⟩)
  have C1 : Hid (Cel w3 (w.heap.size + 1) 3 (.int .i64 (0 : Nat))) := by rw [hw3, ← hs1]; exact (Cel.new _ _ _).alloc _
  have C2 : Hid (Cel w3 (w.heap.size + 1 + 1) 112 (lookV (w.heap.size + 1) (w.heap.size + 1 + 1))) := by rw [hw3]; exact Cel.new' (by simp [hs1])
  have hs3 := k3.size
  have SF : Hid (Safe (fun b => S b ∨ b = w.heap.size) (· = w.heap.size + 1) w3.heap.size) := by
    have h3 : w3.heap.size = w.heap.size + 3 := by rw [hw3]; simp [hs1]
    intro b hb
    rcases hb with hb | rfl
    · have := (hS b hb).1; exact ⟨by omega, by omega⟩
    · exact ⟨by omega, by omega⟩
  have KK3 := Lib.hid (k1.trans k3)
  unfold lookV at hw3
  have HW1 := Lib.hid hw1; have HW3 := Lib.hid hw3
  clear hb hk hz hw1 hw3 k1 k3 hs3
  go_enter Tryz.func52, Tryz.ntmps52
  go_upto_region 4 with fail
  rw [← HW1.out, ← HW3.out]
  have e2 := C2.out.cell
  unfold lookV at e2
  go_wp2_with fail
  refine (look_any (w.heap.size + 1) (w.heap.size + 1 + 1) _ (by omega) (fun b => S b ∨ b = w.heap.size) 100000000 p 0 w.heap.size 0 1 w3 hsz (by omega) (by omega) C1.out C2.out B3.out SF.out).mono ?_
  rintro e w4 ⟨rfl, X4, Y4⟩
  have KK4 : Hid (Kept Nix w w4) := KK3.out.step Y4 (fun y hy => .inr (by subst hy; omega))
  have B4 := Lib.hid (B3.out.kept Y4 SF.out)
  clear X4 Y4 e2
  cases hr : (lookF 0 p 1).2 with
  | false =>
    have fin := Lib.hid (exprE_no hr)
    have hb : (errN false != 0) = true := rfl
    clear hr
    go_wp2_with fail
    go_ret
    exact ⟨by rw [fin.out]; try rfl, KK4.out⟩
  | true =>
    have fin := Lib.hid (exprE_ok hr)
    have hb : (errN true != 0) = false := rfl
    clear hr
    go_wp2_with fail
    refine (nodeE_any 100000000 p _ _ _ _ hsz B4.out).mono ?_
    rintro e w5 ⟨rfl, rfl⟩
    go_wp2_with fail
    go_ret
    exact ⟨by rw [fin.out]; try rfl, KK4.out⟩
end Go.Proofs.YtlnhcgihpclpaaaGreatDoor

namespace Go.Proofs.YtlnhcgihpclpaaaGreatDoor
set_option linter.all false
open Go.RowKit

theorem namedE_drop (l : List ByteArray) (j : Nat) (h : j < l.length) : namedE (l.drop j) = if namedF l[j] = true then namedE (l.drop (j + 1)) else 7 := by
  rw [List.drop_eq_getElem_cons h, namedE]
theorem strs_row {w : World} {b : Nat} {l : List ByteArray} {t : TypeId} {fr : Nat × Nat} (h : w.heap[b]? = some (.cells (l.map Value.string).toArray t fr)) {S : Nat → Prop} (hS : S b) : StrsAt w S (some ⟨b, 0, none⟩) l := by
  intro _
  refine ⟨b, 0, rfl, hS, fun i hi => ?_⟩
  rw [cell_of_row w b (0 + i) _ t fr h]; simp [hi]

set_option maxRecDepth 100000 in
set_option maxHeartbeats 1000000 in
theorem named_list (l : List ByteArray) (a : Option Addr) (cap : Nat) (S : Nat → Prop) (w : World) (hl : StrsAt w S a l) (hz : l.length < 1000000000 ∧ ∀ x ∈ l, x.size < 1000000000) :
    Calls Tryz.prog 55 #[.slice a l.length cap] w fun e w' => e = .returned (.int .i64 (namedE l)) ∧ w' = w := by
  have HL := Lib.hid hl; have HZ := Lib.hid hz.2
  have hzl := hz.1
  clear hl hz
  go_enter Tryz.func55, Tryz.ntmps55
  go_wp2_with fail
  go_loop [7] (fun i => ∃ j : Nat, j ≤ l.length ∧ i = .int .i64 j ∧ Hid (namedE l = namedE (l.drop j))) (fun i => l.length - (intOf i).toNat)
  case atStart => exact ⟨0, Nat.zero_le _, rfl, by unfold Hid; rw [List.drop_zero]⟩
  case round =>
    obtain ⟨j, hj, rfl, hno⟩ := hrel
    by_cases hlt : j < l.length
    · obtain ⟨b, o, rfl, _, hc⟩ := HL.out (by omega)
      have hcj := hc j hlt
      have hn : (l[j]).size ≤ maxLen := by have := HZ.out l[j] (List.getElem_mem hlt); unfold maxLen; omega
      have hd := namedE_drop l j hlt
      clear hc
      cases hb : namedF l[j] with
      | true =>
        rw [if_pos hb] at hd
        have step := Lib.hid (hno.out.trans hd)
        have HB := Lib.hid hb
        clear hd hb
        go_wp2_with (go_at_call 51; (with_reducible refine (named_any _ _ hn).mono ?_); rintro e w' ⟨rfl, rfl⟩; rw [HB.out])
        go_round
        case rel => exact ⟨j + 1, by omega, by go_num, step⟩
        case measure => simp [intOf]; omega
      | false =>
        rw [if_neg (by simp [hb])] at hd
        have fin := Lib.hid (hno.out.trans hd)
        have HB := Lib.hid hb
        clear hd hb
        go_wp2_with (go_at_call 51; (with_reducible refine (named_any _ _ hn).mono ?_); rintro e w' ⟨rfl, rfl⟩; rw [HB.out])
        go_ret
        exact ⟨by rw [fin.out]; try rfl, rfl⟩
    · obtain rfl : j = l.length := by omega
      have fin : Hid (namedE l = 0) := by unfold Hid; rw [hno.out, List.drop_length, namedE]
      go_wp2_with fail
      go_ret
      exact ⟨by rw [fin.out]; try rfl, rfl⟩

set_option maxRecDepth 100000 in
theorem target_any (p : PatT) (v : Value) (S : Nat → Prop) (w : World) (hp : PatV w S v p) : Calls Tryz.prog 54 #[v] w (BoolQ (decide (isTarget p)) w) := by
  obtain ⟨ka, cap, rfl, hz, hk⟩ := hp
  by_cases h : isTarget p
  · have hb : Hid (decide (isTarget p) = true) := decide_eq_true h
    have h' := h; unfold isTarget at h'
    rcases h' with h' | h' | h'
    all_goals
      rw [h']
      clear h
      go_enter Tryz.func54, Tryz.ntmps54
      go_wp2_with fail
      go_ret
      exact ⟨by rw [hb.out]; try rfl, (Kept.refl _ _).alloc _⟩
  · have hb : Hid (decide (isTarget p) = false) := decide_eq_false h
    have h' := h; unfold isTarget at h'
    have e1 : (p.kind == 3) = false := by simp; omega
    have e2 : (p.kind == 4) = false := by simp; omega
    have e3 : (p.kind == 5) = false := by simp; omega
    clear h h'
    go_enter Tryz.func54, Tryz.ntmps54
    go_wp2_with fail
    go_ret
    exact ⟨by rw [hb.out]; try rfl, (Kept.refl _ _).alloc _⟩
end Go.Proofs.YtlnhcgihpclpaaaGreatDoor

namespace Go.Proofs.YtlnhcgihpclpaaaGreatDoor
set_option linter.all false
open Go.RowKit

theorem PatV.keepN {w w' : World} {S : Nat → Prop} {v : Value} {p : PatT} (h : PatV w S v p) (hk : Kept Nix w w') (hS : Safe S Nix w.heap.size) : PatV w' S v p := by
  obtain ⟨a, c, e, z, k⟩ := h
  exact ⟨a, c, e, z, k.kept hk hS⟩
theorem PatV.all {w : World} {S : Nat → Prop} {v : Value} {p : PatT} (h : PatV w S v p) (hS : Safe S Nix w.heap.size) : PatV w (· < w.heap.size) v p := by
  obtain ⟨a, c, e, z, k⟩ := h
  exact ⟨a, c, e, z, PatsAt.same (fun _ _ => rfl) (fun b hb => (hS b hb).1) _ _ k⟩
theorem firstE_drop (l : List Int) (j : Nat) (h : j < l.length) : firstE (l.drop j) = if l[j] = 0 then firstE (l.drop (j + 1)) else l[j] := by
  rw [List.drop_eq_getElem_cons h, firstE]
theorem infoErr : (Tryz.prog.info? 22).map (fun i => (i.zero, i.size, i.bytes)) = some (some (.int .i64 0), 1, 8) := by kernel_rfl
theorem errs_src {w : World} {g : Nat} {es : List Int} (hg : w.heap[g]? = some (.cells (es.map (Value.int .i64)).toArray 22 (0, 0))) :
    Src Tryz.prog 1 96 (.slice (some ⟨g, 0, none⟩) es.length es.length) es.length (es.map (Value.int .i64)) w := by
  have h := World.news_of_block (fr := (0, 0)) (cs := (es.map (Value.int .i64)).toArray) hg
  simp only [List.toList_toArray, List.size_toArray, List.length_map] at h
  exact Src.ofSlice _ Tryz.underlying96 _ _ _ _ (by simp) h (by intro u hu; obtain ⟨e, _, rfl⟩ := List.mem_map.1 hu; rfl)
theorem wpList_err {ops : Array Oper} {rest : List Oper} {o : Oper} {a : Act} {Q : Exit → Act → World → Prop} {w w0 : World} (hgd : o.guard = none) (s x : Operand)
    (ho : o.op = .call { callee := .builtin .append, args := #[s, x], argTypes := #[96, 96] })
    (v : Value) (n : Nat) (xs : List Value) (hs : a.eval s = v) (B : Nat) (hown : Win w B 22 1 v n xs) (es : List Int) (g : Nat) (hx : a.eval x = .slice (some ⟨g, 0, none⟩) es.length es.length)
    (hg : w.heap[g]? = some (.cells (es.map (Value.int .i64)).toArray 22 (0, 0))) (hn : n + es.length ≤ 1000) (hB : B ≤ w.heap.size) (K0 : Kept Nix w0 w) (hB0 : w0.heap.size ≤ B)
    (h : ∀ a' c' w', Win w' B 22 1 (.slice a' (n + es.length) c') (n + es.length) (xs ++ es.map (Value.int .i64)) → Kept Nix w0 w' → w.heap.size ≤ w'.heap.size → wpList Tryz.prog ops Q rest (a.put o.dst (.slice a' (n + es.length) c')) w') :
    wpList Tryz.prog ops Q (o :: rest) a w := by
  obtain ⟨i0, hi0, hz0, hz1, hz2⟩ := info_parts infoErr
  refine wpList_append_win w hgd s x _ _ ho B 22 i0 (.int .i64 0) 1 8 Tryz.underlying96 hi0 hz0 hz1 hz2 rfl v n xs hs hown _ es.length (es.map (Value.int .i64)) hx (errs_src hg) (by unfold maxLen; omega) (by omega) hB ?_
  intro a' c' w' hW hgr _
  exact h a' c' w' hW (K0.grown hgr fun k hk => .inr (by have := (hown.lt k hk).1; omega)) hgr.size
theorem op_err {i : Nat} {o : Oper} {x : Act} {w : World} {R : Nat → Value → World → Prop} {Q : Exit → Act → World → Prop} (s y : Operand)
    (ho : o.op = .call { callee := .builtin .append, args := #[s, y], argTypes := #[96, 96] })
    (hs : x.eval s = .slice none 0 0) (es : List Int) (g : Nat) (hx : x.eval y = .slice (some ⟨g, 0, none⟩) es.length es.length)
    (hg : w.heap[g]? = some (.cells (es.map (Value.int .i64)).toArray 22 (0, 0))) (hn : es.length ≤ 1000) (B : Nat) (hB : B ≤ w.heap.size)
    (h : ∀ a' c' w', Win w' B 22 1 (.slice a' es.length c') es.length (es.map (Value.int .i64)) → R i (.slice a' es.length c') w') :
    o.wp Tryz.prog x w (fun a' w' => ∃ v, a' = x.put o.dst v ∧ (∀ d, o.dst = some d → R i v w') ∧ Kept Nix w w') Q := by
  obtain ⟨i0, hi0, hz0, hz1, hz2⟩ := info_parts infoErr
  refine wp_append_win w s y _ _ ho B 22 i0 (.int .i64 0) 1 8 Tryz.underlying96 hi0 hz0 hz1 hz2 rfl (.slice none 0 0) 0 [] hs (Win.nil ..) _ es.length (es.map (Value.int .i64)) hx (errs_src hg) (by unfold maxLen; omega) (by omega) hB ?_
  intro a' c' w' hW hgr _
  simp only [Nat.zero_add, List.nil_append] at hW ⊢
  exact ⟨_, rfl, fun _ _ => h a' c' w' hW, (Kept.refl Nix w).grown hgr fun k hk => by cases hk⟩
end Go.Proofs.YtlnhcgihpclpaaaGreatDoor
