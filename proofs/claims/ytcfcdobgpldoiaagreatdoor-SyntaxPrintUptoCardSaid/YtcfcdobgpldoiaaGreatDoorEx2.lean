/- syntax.node: what is wrong with an expression's nodes. -/
import Derived.Test.YtcfcdobgpldoiaaGreatDoorSm13
namespace Go.Proofs.YtcfcdobgpldoiaaGreatDoor
set_option linter.all false
open Go.RowKit

/-- What is wrong with a node, its kids left out. -/
def headE (k : Int) (t : ByteArray) (n : Int) (nm : ByteArray) : Int :=
  if k < 1 ∨ 13 < k then 1
  else if k = 1 ∧ 65536 < t.size then 4
  else if k = 2 ∧ n < 0 then 3
  else if (k = 3 ∨ k = 4 ∨ k = 6) ∧ namedF nm = false then 7 else 0
theorem ownE_eq (k : Int) (t : ByteArray) (n : Int) (nm : ByteArray) (len : Nat) : ownE k t n nm len = if headE k t n nm = 0 then (if (k = 6 ∧ 8 < len) ∨ (k ≠ 6 ∧ (len : Int) ≠ exKids k) then 5 else 0) else headE k t n nm := by
  unfold ownE headE
  split
  · simp
  · split
    · simp
    · split
      · simp
      · split <;> simp
theorem nodeE_head {k : Int} {t : ByteArray} {n : Int} {nm : ByteArray} {kids : List PatT} {e : Int} (h : headE k t n nm = e) (he : e ≠ 0) : nodeE (.mk k t n nm kids) = e := by
  rw [nodeE, ownE_eq, h, if_neg he, if_neg he]
theorem nodeE_five {k : Int} {t : ByteArray} {n : Int} {nm : ByteArray} {kids : List PatT} (h : headE k t n nm = 0) (hc : (k = 6 ∧ 8 < kids.length) ∨ (k ≠ 6 ∧ (kids.length : Int) ≠ exKids k)) : nodeE (.mk k t n nm kids) = 5 := by
  rw [nodeE, ownE_eq, if_pos h, if_pos hc]; rfl
theorem nodeE_kids {k : Int} {t : ByteArray} {n : Int} {nm : ByteArray} {kids : List PatT} (h : headE k t n nm = 0) (hc : ¬ ((k = 6 ∧ 8 < kids.length) ∨ (k ≠ 6 ∧ (kids.length : Int) ≠ exKids k))) : nodeE (.mk k t n nm kids) = nodesE kids := by
  rw [nodeE, ownE_eq, if_pos h, if_neg hc]; rfl
section
variable {k n : Int} {t nm : ByteArray}
theorem hd_kind (h : k < 1 ∨ 13 < k) : headE k t n nm = 1 := by unfold headE; rw [if_pos h]
theorem hd_text (h : k = 1) (hs : 65536 < t.size) : headE k t n nm = 4 := by unfold headE; rw [if_neg (by omega), if_pos ⟨h, hs⟩]
theorem hd_num (h : k = 2) (hs : n < 0) : headE k t n nm = 3 := by unfold headE; rw [if_neg (by omega), if_neg (by omega), if_pos ⟨h, hs⟩]
theorem hd_name (h : k = 3 ∨ k = 4 ∨ k = 6) (hs : namedF nm = false) : headE k t n nm = 7 := by unfold headE; rw [if_neg (by omega), if_neg (by omega), if_neg (by omega), if_pos ⟨h, hs⟩]
theorem ok_text (h : k = 1) (hs : ¬ 65536 < t.size) : headE k t n nm = 0 := by unfold headE; rw [if_neg (by omega), if_neg (by omega), if_neg (by omega), if_neg (by omega)]
theorem ok_num (h : k = 2) (hs : ¬ n < 0) : headE k t n nm = 0 := by unfold headE; rw [if_neg (by omega), if_neg (by omega), if_neg (by omega), if_neg (by omega)]
theorem ok_name (h : k = 3 ∨ k = 4 ∨ k = 6) (hs : namedF nm = true) : headE k t n nm = 0 := by unfold headE; rw [if_neg (by omega), if_neg (by omega), if_neg (by omega), if_neg (by simp [hs])]
theorem ok_other (h : k = 5 ∨ (7 ≤ k ∧ k ≤ 13)) : headE k t n nm = 0 := by unfold headE; rw [if_neg (by omega), if_neg (by omega), if_neg (by omega), if_neg (by omega)]
theorem m_text (h : (k == 1) = true) (hs : (t.size : Int) ≤ 65536) : Value.int .i64 0 = Value.int .i64 (exKids k) ∧ headE k t n nm = 0 := by
  obtain rfl : k = 1 := by simpa using h
  exact ⟨rfl, ok_text rfl (by omega)⟩
theorem m_num (h : (k == 2) = true) (hs : 0 ≤ n) : Value.int .i64 0 = Value.int .i64 (exKids k) ∧ headE k t n nm = 0 := by
  obtain rfl : k = 2 := by simpa using h
  exact ⟨rfl, ok_num rfl (by omega)⟩
theorem m_3 (h : (k == 3) = true) (hs : (!namedF nm) = false) : Value.int .i64 0 = Value.int .i64 (exKids k) ∧ headE k t n nm = 0 := by
  obtain rfl : k = 3 := by simpa using h
  exact ⟨rfl, ok_name (.inl rfl) (by simpa using hs)⟩
theorem m_4 (h : (k == 4) = true) (hs : (!namedF nm) = false) : Value.int .i64 1 = Value.int .i64 (exKids k) ∧ headE k t n nm = 0 := by
  obtain rfl : k = 4 := by simpa using h
  exact ⟨rfl, ok_name (.inr (.inl rfl)) (by simpa using hs)⟩
theorem m_6 (h : (k == 6) = true) (hs : (!namedF nm) = false) : Value.int .i64 0 = Value.int .i64 (exKids k) ∧ headE k t n nm = 0 := by
  obtain rfl : k = 6 := by simpa using h
  exact ⟨rfl, ok_name (.inr (.inr rfl)) (by simpa using hs)⟩
theorem m_one (h : (k == 5) = true ∨ (k == 7) = true) : Value.int .i64 1 = Value.int .i64 (exKids k) ∧ headE k t n nm = 0 := by
  simp only [beq_iff_eq] at h
  rcases h with rfl | rfl <;> exact ⟨rfl, ok_other (by omega)⟩
theorem m_two (h : (k == 8) = true ∨ (k == 9) = true ∨ (k == 10) = true ∨ (k == 11) = true ∨ (k == 12) = true ∨ (k == 13) = true) : Value.int .i64 2 = Value.int .i64 (exKids k) ∧ headE k t n nm = 0 := by
  simp only [beq_iff_eq] at h
  rcases h with rfl | rfl | rfl | rfl | rfl | rfl <;> exact ⟨rfl, ok_other (by omega)⟩
theorem q_text (kids : List PatT) (h : (k == 1) = true) (hs : 65536 < (t.size : Int)) : 4 = nodeE (.mk k t n nm kids) := (nodeE_head (hd_text (by simpa using h) (by omega)) (by decide)).symm
theorem q_num (kids : List PatT) (h : (k == 2) = true) (hs : n < 0) : 3 = nodeE (.mk k t n nm kids) := (nodeE_head (hd_num (by simpa using h) hs) (by decide)).symm
theorem q_name (kids : List PatT) (h : (k == 3) = true ∨ (k == 4) = true ∨ (k == 6) = true) (hs : (!namedF nm) = true) : 7 = nodeE (.mk k t n nm kids) := by
  simp only [beq_iff_eq] at h
  exact (nodeE_head (hd_name h (by simpa using hs)) (by decide)).symm
end

set_option maxRecDepth 100000 in
set_option maxHeartbeats 1000000 in
theorem nodeE_any : ∀ (m : Nat) (p : PatT) (b o : Nat) (S : Nat → Prop) (w : World), sizeT p ≤ m → PatAt w S b o p →
    Calls Tryz.prog 13 #[.pointer (some ⟨b, o, none⟩)] w fun e w' => e = .returned (.int .i64 (nodeE p)) ∧ w = w' := by
  intro m
  induction m with
  | zero => intro p b o S w hm; have := sizeT_pos p; omega
  | succ m ih =>
  intro p b o S w hm hp
  obtain ⟨k, t, n, nm, kids⟩ := p
  unfold PatAt at hp
  obtain ⟨_, ⟨ht, hn0, hk⟩, h0, h1, h2, h3, ka, cap, h4, hks⟩ := hp
  have hn : nm.size ≤ maxLen := by unfold maxLen; omega
  have HK := Lib.hid hks; clear hks
  have hih : ∀ (j : Nat) (hj : j < kids.length) (b o : Nat) (w : World), PatAt w S b o kids[j] → Calls Tryz.prog 13 #[.pointer (some ⟨b, o, none⟩)] w fun e w' => e = .returned (.int .i64 (nodeE kids[j])) ∧ w = w' :=
    fun j hj b o w h => ih kids[j] b o S w (by have := sizeT_get kids j hj; simp only [sizeT] at hm; omega) h
  have HIH := Lib.hid hih; clear hih ih hm
  by_cases hk0 : k < 1 ∨ 13 < k
  · have hr := nodeE_head (kids := kids) (hd_kind (t := t) (n := n) (nm := nm) hk0) (by decide)
    have HR := Lib.hid hr
    have e1 : (k == 1) = false := by simp; omega
    have e2 : (k == 2) = false := by simp; omega
    have e3 : (k == 3) = false := by simp; omega
    have e4 : (k == 4) = false := by simp; omega
    have e5 : (k == 5) = false := by simp; omega
    have e6 : (k == 6) = false := by simp; omega
    have e7 : (k == 7) = false := by simp; omega
    have e8 : (k == 8) = false := by simp; omega
    have e9 : (k == 9) = false := by simp; omega
    have e10 : (k == 10) = false := by simp; omega
    have e11 : (k == 11) = false := by simp; omega
    have e12 : (k == 12) = false := by simp; omega
    have e13 : (k == 13) = false := by simp; omega
    clear hr hk0 h1 h2 h3 h4
    go_enter Tryz.func13, Tryz.ntmps13
    go_wp2_with fail
    go_ret
    exact ⟨by rw [HR.out]; try rfl, rfl⟩
  go_enter Tryz.func13, Tryz.ntmps13
  go_upto_block 0 with fail
  go_cut [3] (fun l w' => w = w' ∧ l = .int .i64 (exKids k) ∧ headE k t n nm = 0)
  case first =>
    go_wp2_with (go_at_call 16; refine (named_any _ _ hn).mono ?_; rintro e w' ⟨rfl, rfl⟩)
    all_goals
      first
        | (go_meet; go_light; refine ⟨rfl, ?_⟩; first
            | exact m_text ‹(k == 1) = true› ‹_›
            | exact m_num ‹(k == 2) = true› ‹_›
            | exact m_3 ‹(k == 3) = true› ‹_›
            | exact m_4 ‹(k == 4) = true› ‹_›
            | exact m_6 ‹(k == 6) = true› ‹_›
            | exact m_one (.inl ‹(k == 5) = true›)
            | exact m_one (.inr ‹(k == 7) = true›)
            | exact m_two (.inl ‹(k == 8) = true›)
            | exact m_two (.inr (.inl ‹(k == 9) = true›))
            | exact m_two (.inr (.inr (.inl ‹(k == 10) = true›)))
            | exact m_two (.inr (.inr (.inr (.inl ‹(k == 11) = true›))))
            | exact m_two (.inr (.inr (.inr (.inr (.inl ‹(k == 12) = true›)))))
            | exact m_two (.inr (.inr (.inr (.inr (.inr ‹(k == 13) = true›))))))
        | (go_ret; go_light; refine ⟨ret_int ?_, rfl⟩; first
            | exact q_text kids ‹(k == 1) = true› ‹_›
            | exact q_num kids ‹(k == 2) = true› ‹_›
            | exact q_name kids (.inl ‹(k == 3) = true›) ‹_›
            | exact q_name kids (.inr (.inl ‹(k == 4) = true›)) ‹_›
            | exact q_name kids (.inr (.inr ‹(k == 6) = true›)) ‹_›)
  case rest =>
    obtain ⟨rfl, rfl, hc⟩ := hcut
    have hx : exKids k ≤ 2 ∧ 0 ≤ exKids k := by unfold exKids; split <;> (try split) <;> omega
    by_cases h5 : (k = 6 ∧ 8 < kids.length) ∨ (k ≠ 6 ∧ (kids.length : Int) ≠ exKids k)
    · have hr := nodeE_five hc h5
      have HR := Lib.hid hr
      clear hr hc
      rcases h5 with ⟨a, c⟩ | ⟨a, c⟩
      · have e1 : (k == 6) = true := by simpa using a
        have e2 : decide ((8 : Int) < (kids.length : Int)) = true := decide_eq_true (by omega)
        clear a c
        go_wp2_with fail
        go_ret
        exact ⟨by rw [HR.out]; try rfl, rfl⟩
      · have e1 : (k == 6) = false := by simpa using a
        have e2 : (k != 6) = true := by simpa using a
        have e3 : ((kids.length : Int) != exKids k) = true := by simpa using c
        clear a c
        go_wp2_with fail
        go_ret
        exact ⟨by rw [HR.out]; try rfl, rfl⟩
    · have hr := nodeE_kids hc h5
      have HR := Lib.hid hr
      have hz : (k = 6 ∧ ((k == 6) = true) ∧ (k != 6) = false ∧ decide ((8 : Int) < (kids.length : Int)) = false) ∨ (k ≠ 6 ∧ ((k == 6) = false) ∧ (k != 6) = true ∧ ((kids.length : Int) != exKids k) = false) := by
        by_cases h6 : k = 6
        · exact .inl ⟨h6, by simpa using h6, by simpa using h6, decide_eq_false (by omega)⟩
        · exact .inr ⟨h6, by simpa using h6, by simpa using h6, by simp; omega⟩
      clear hr hc h5 h1 h2 h3
      rcases hz with ⟨rfl, e1, e2, e3⟩ | ⟨_, e1, e2, e3⟩
      all_goals
        go_wp2_with fail
        go_loop [84] (fun i => ∃ j : Nat, j ≤ kids.length ∧ i = .int .i64 j ∧ Hid (nodesE kids = nodesE (kids.drop j))) (fun i => kids.length - (intOf i).toNat)
        case atStart => exact ⟨0, Nat.zero_le _, rfl, by unfold Hid; rw [List.drop_zero]⟩
        case round =>
          obtain ⟨j, hj, rfl, hno⟩ := hrel
          by_cases hlt : j < kids.length
          · obtain ⟨b1, o1, rfl⟩ := PatsAt_head HK.out (by omega)
            have hP := Lib.hid (PatsAt_get kids b1 o1 j hlt HK.out)
            have hd := nodesE_drop kids j hlt
            by_cases hz : nodeE kids[j] = 0
            · rw [if_pos hz] at hd
              have step := Lib.hid (hno.out.trans hd)
              have hb : (nodeE kids[j] != 0) = false := by simpa using hz
              clear hd hz
              go_wp2_with (go_at_call 13; refine (HIH.out j hlt _ _ _ hP.out).mono ?_; rintro e w' ⟨rfl, rfl⟩)
              go_round
              case rel => exact ⟨j + 1, by omega, by go_num, step⟩
              case measure => simp [intOf]; omega
            · rw [if_neg hz] at hd
              have fin := Lib.hid (HR.out.trans (hno.out.trans hd))
              have hb : (nodeE kids[j] != 0) = true := by simpa using hz
              clear hd hz
              go_wp2_with (go_at_call 13; refine (HIH.out j hlt _ _ _ hP.out).mono ?_; rintro e w' ⟨rfl, rfl⟩)
              go_ret
              exact ⟨by rw [fin.out]; try rfl, rfl⟩
          · obtain rfl : j = kids.length := by omega
            have fin := Lib.hid (HR.out.trans (hno.out.trans (show nodesE (kids.drop kids.length) = 0 by rw [List.drop_length, nodesE])))
            go_wp2_with fail
            go_ret
            exact ⟨by rw [fin.out]; try rfl, rfl⟩
end Go.Proofs.YtcfcdobgpldoiaaGreatDoor
