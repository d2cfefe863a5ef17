/- The document's Rules. -/
import Derived.Test.YtdkpdomggbiolaaRul2
namespace Go.Proofs.Ytdkpdomggbiolaa
set_option linter.all false
open Go.RowKit

theorem wrong_same5 (p : PatT) : wrongF p = refWrongR p := wrongF_eq p
set_option maxRecDepth 100000 in
set_option maxHeartbeats 4000000 in
theorem refRules_any (l : List RuleT) (al : Option Addr) (cl : Nat) (w : World) (hl : RulesAt w (· < w.heap.size) al l) (hlen : l.length ≤ 1048576) (hcl : l.length ≤ cl) :
    Calls Try.prog 17 #[.slice al l.length cl] w (IntQ (rulesF l) w) := by
  have HA : Hid (∀ wy, Kept Nix w wy → RulesAt wy (· < w.heap.size) al l) := fun wy hk => hl.to hk (Safe.lt (Nat.le_refl _)) (fun _ h => h)
  clear hl
  by_cases hbig : 64 < l.length
  · have fin : Hid (rulesF l = 5) := if_pos hbig
    have d1 : decide ((64 : Int) < (l.length : Int)) = true := decide_eq_true (by omega)
    have d2 : decide (64 < l.length) = true := decide_eq_true hbig
    clear hbig
    go_enter Try.func17, Try.ntmps17
    go_wp2_with fail
    go_ret
    exact ⟨by rw [fin.out]; try rfl, Kept.refl _ _⟩
  have hrf : Hid (rulesF l = rGo [] l) := if_neg hbig
  have d1 : decide ((64 : Int) < (l.length : Int)) = false := decide_eq_false (by omega)
  have d2 : decide (64 < l.length) = false := decide_eq_false hbig
  have hl64 : l.length ≤ 64 := by omega
  clear hbig
  go_enter Try.func17, Try.ntmps17
  go_wp2_with fail
  go_loopw [13] (fun i wr => ∃ j : Nat, j ≤ l.length ∧ i = .int .i64 j ∧ Hid (rulesF l = rGo ((l.take j).map RuleT.name) (l.drop j)) ∧ Kept Nix w wr) (fun i _ => l.length - (intOf i).toNat)
  case atStart => exact ⟨0, Nat.zero_le _, rfl, by unfold Hid; rw [List.drop_zero, List.take_zero]; exact hrf.out, Kept.refl _ _⟩
  case round =>
    obtain ⟨j, hj, rfl, hno, hk⟩ := hrel
    have KW := Lib.hid hk
    clear hk
    by_cases hlt : j < l.length
    · obtain ⟨b, o, rfl, hc⟩ := (HA.out wr KW.out) (by omega)
      have hr := hc j hlt
      have hd := rGo_drop l j hlt
      obtain ⟨q0, q1, q2, q3, q4, ka, cap, q5, hks⟩ := hr.cells
      obtain ⟨-, hnz, hsz, -, hpat⟩ := hr
      have hz := hpat.open.2.1
      obtain ⟨r, hrd⟩ : ∃ r, r = l[j] := ⟨_, rfl⟩
      rw [← hrd] at hd q0 q1 q2 q3 q4 q5 hks hnz hsz hpat hz
      have hnl : r.name.size ≤ maxLen := by unfold maxLen; omega
      have HKS := Lib.hid hks; have HZ := Lib.hid hz; have HD := Lib.hid hd
      have SWr : Hid (Safe (· < w.heap.size) Nix wr.heap.size) := Safe.lt KW.out.size
      clear hc hpat hrd hks hz hd
      go_upto_region 6 with fail
      obtain ⟨w6, hw6⟩ : ∃ w6, w6 = wr.alloc (.cells #[.string r.name, .int .i64 r.pat.kind, .string r.pat.text, .int .i64 r.pat.n, .string r.pat.name, .slice ka r.pat.kids.length cap] 39) := ⟨_, rfl⟩
      have RB : Hid (RuB wr.heap.size r ka cap w6) := by rw [hw6]; exact heap_alloc_new wr _
      have KA : Hid (Kept Nix wr w6) := by rw [hw6]; exact (Kept.refl _ _).alloc _
      have HW6 := Lib.hid hw6
      rw [← hw6]
      clear hw6 q0 q1 q2 q3 q4 q5
      obtain ⟨gN, hgN⟩ : ∃ g, g = wr.heap.size := ⟨_, rfl⟩
      rw [← hgN] at RB ⊢
      clear hgN
      obtain ⟨x0, x1, x2, x3, x4, x5⟩ := RB.out.cells
      have K6 := Lib.hid (KW.out.trans KA.out)
      have hPV : Hid (PatV w6 (· < w6.heap.size) (.agg #[.int .i64 r.pat.kind, .string r.pat.text, .int .i64 r.pat.n, .string r.pat.name, .slice ka r.pat.kids.length cap]) r.pat) := ⟨ka, cap, rfl, HZ.out, HKS.out.to KA.out SWr.out (fun b hb => Nat.lt_of_lt_of_le hb K6.out.size)⟩
      have hjc : j ≤ cl := by omega
      cases hnm : namedF r.name with
      | false =>
        have fin : Hid (rulesF l = 7) := by unfold Hid; rw [hno.out, HD.out, if_pos (.inl hnm)]
        have HNM := Lib.hid hnm
        clear hnm
        go_wp2_with (go_at_call 42; (refine (refNamed_any r.name w6 hnl).mono ?_); rintro e w7 ⟨rfl, k7_⟩; have K7 := Lib.hid (K6.out.trans k7_); clear k7_; rw [HNM.out])
        go_ret
        exact ⟨by rw [fin.out]; try rfl, K7.out⟩
      | true =>
        have HNM := Lib.hid hnm
        clear hnm
        go_wp2_with (go_at_call 42; (refine (refNamed_any r.name w6 hnl).mono ?_); rintro e w7 ⟨rfl, k7_⟩; have K7 := Lib.hid k7_; clear k7_; rw [HNM.out])
        have K07 : Hid (Kept Nix w w7) := K6.out.trans K7.out
        have RB7 := Lib.hid (RB.out.kept K7.out (fun h => h))
        clear x0 x1 x2 x3 x4 x5
        go_loopw [26] (fun i wq => ∃ k : Nat, k ≤ j ∧ i = .int .i64 k ∧ Hid (∀ x, x < k → ∀ (h : x < l.length), l[x].name ≠ r.name) ∧ Kept Nix w7 wq) (fun i _ => j - (intOf i).toNat)
        case atStart => exact ⟨0, Nat.zero_le _, rfl, fun x hx => by omega, Kept.refl _ _⟩
        case round =>
          obtain ⟨k, hk, rfl, hnone, hkq⟩ := hrel
          have KQ := Lib.hid hkq
          have K0Q : Hid (Kept Nix w wr) := K07.out.trans hkq
          obtain ⟨y0, y1, y2, y3, y4, y5⟩ := (RB7.out.kept hkq (fun h => h)).cells
          clear hkq
          by_cases hlk : k < j
          · obtain ⟨b', o', he, hc⟩ := (HA.out wr K0Q.out) (by omega)
            simp only [Option.some.injEq, Addr.mk.injEq, and_true] at he
            obtain ⟨rfl, rfl⟩ := he
            have hr2 := hc k (by omega)
            obtain ⟨q0, q1, q2, q3, q4, ka2, cap2, q5, _⟩ := hr2.cells
            have hgl := RB7.out.lt
            have hgw : gN < wr.heap.size := Nat.lt_of_lt_of_le hgl KQ.out.size
            obtain ⟨s, hsd⟩ : ∃ s, s = l[k]'(by omega) := ⟨_, rfl⟩
            rw [← hsd] at q0 q1 q2 q3 q4 q5
            have HSD := Lib.hid hsd
            have z0 : (wr.alloc (.cells #[.string s.name, .int .i64 s.pat.kind, .string s.pat.text, .int .i64 s.pat.n, .string s.pat.name, .slice ka2 s.pat.kids.length cap2] 39)).cell? ⟨gN, 0, none⟩ = some (.string r.name) := by rw [World.cell?_alloc_past _ _ _ hgw]; exact y0
            clear hc hsd hgl hgw hr2
            by_cases hsame : s.name = r.name
            · have e1 : (s.name.toList == r.name.toList) = true := by rw [beqD]; exact decide_eq_true hsame
              have fin : Hid (rulesF l = 7) := by
                unfold Hid
                rw [hno.out, HD.out, if_pos]
                exact .inr (List.mem_map.2 ⟨s, List.mem_iff_getElem.2 ⟨k, by simp; omega, by rw [List.getElem_take, HSD.out]⟩, hsame⟩)
              clear hsame
              go_wp2_with fail
              go_ret
              exact ⟨by rw [fin.out]; try rfl, K0Q.out.alloc _⟩
            · have e1 : (s.name.toList == r.name.toList) = false := by rw [beqD]; exact decide_eq_false hsame
              have step : Hid (∀ x, x < k + 1 → ∀ (h : x < l.length), l[x].name ≠ r.name) := by
                intro x hx h
                rcases Nat.lt_or_ge x k with h1 | h1
                · exact hnone.out x h1 h
                · obtain rfl : x = k := by omega
                  rw [← HSD.out]; exact hsame
              clear hsame
              go_wp2_with fail
              go_roundw
              case rel => exact ⟨k + 1, by omega, by go_num, step, KQ.out.alloc _⟩
              case measure => simp [intOf]; omega
          · obtain rfl : k = j := by omega
            have hnot : Hid (r.name ∉ (l.take k).map RuleT.name) := by
              intro h
              obtain ⟨s, hs, he⟩ := List.mem_map.1 h
              obtain ⟨x, hx, rfl⟩ := List.mem_iff_getElem.1 hs
              rw [List.getElem_take] at he
              have hx' : x < k := by rw [List.length_take] at hx; omega
              exact hnone.out x hx' (by omega) he
            have HWR : Hid (Calls Try.prog 16 #[.agg #[.int .i64 r.pat.kind, .string r.pat.text, .int .i64 r.pat.n, .string r.pat.name, .slice ka r.pat.kids.length cap]] wr (IntQ (wrongF r.pat) wr)) := by
              have h := refWrong_any r.pat _ (· < wr.heap.size) wr (by omega) (hPV.out.kept' (K7.out.trans KQ.out)) (Safe.lt (Nat.le_refl _))
              rw [← wrong_same5] at h; exact h
            by_cases hw0 : wrongF r.pat = 0
            · have step : Hid (rulesF l = rGo ((l.take (k + 1)).map RuleT.name) (l.drop (k + 1))) := by
                unfold Hid
                rw [hno.out, HD.out, if_neg (fun h => h.elim (fun h => by rw [HNM.out] at h; cases h) hnot.out), if_neg (fun h => h hw0)]
              rw [hw0] at HWR
              clear hw0
              go_wp2_with (go_at_call 16; (refine HWR.out.mono ?_); rintro e w8 ⟨rfl, k8_⟩; have K8 := Lib.hid (K0Q.out.trans k8_); clear k8_)
              go_roundw
              case rel => exact ⟨k + 1, by omega, by go_num, step, K8.out⟩
              case measure => simp [intOf]; omega
            · have fin : Hid (rulesF l = wrongF r.pat) := by
                unfold Hid
                rw [hno.out, HD.out, if_neg (fun h => h.elim (fun h => by rw [HNM.out] at h; cases h) hnot.out), if_pos hw0]
              have z1 : (wrongF r.pat != 0) = true := by simpa using hw0
              clear hw0
              go_wp2_with (go_at_call 16; (refine HWR.out.mono ?_); rintro e w8 ⟨rfl, k8_⟩; have K8 := Lib.hid (K0Q.out.trans k8_); clear k8_)
              go_ret
              exact ⟨by rw [fin.out]; try rfl, K8.out⟩
    · obtain rfl : j = l.length := by omega
      have fin : Hid (rulesF l = 0) := by unfold Hid; rw [hno.out, List.drop_length, rGo]
      go_wp2_with fail
      go_ret
      exact ⟨by rw [fin.out]; try rfl, KW.out⟩
end Go.Proofs.Ytdkpdomggbiolaa
