/- scan.Rules, and the document's Rules: what is wrong with rules. -/
import Derived.Test.YtdkpdomggbiolaaIdx
import Derived.Test.YtdkpdomggbiolaaRef4e
namespace Go.Proofs.Ytdkpdomggbiolaa
set_option linter.all false
open Go.RowKit

theorem rGo_drop (l : List RuleT) (j : Nat) (h : j < l.length) : rGo ((l.take j).map RuleT.name) (l.drop j) = if namedF l[j].name = false ∨ l[j].name ∈ (l.take j).map RuleT.name then 7 else if wrongF l[j].pat ≠ 0 then wrongF l[j].pat else rGo ((l.take (j + 1)).map RuleT.name) (l.drop (j + 1)) := by
  rw [List.drop_eq_getElem_cons h, rGo, List.take_succ_eq_append_getElem h, List.map_append]; rfl
theorem any_name (l : List RuleT) (n : ByteArray) : (l.any fun r => decide (r.name = n)) = decide (n ∈ l.map RuleT.name) := by
  rw [Bool.eq_iff_iff, List.any_eq_true, decide_eq_true_eq, List.mem_map]
  exact ⟨fun ⟨r, hr, h⟩ => ⟨r, hr, of_decide_eq_true h⟩, fun ⟨r, hr, h⟩ => ⟨r, hr, decide_eq_true h⟩⟩
theorem beqD {a b : ByteArray} : (a.toList == b.toList) = decide (a = b) := by
  rw [Bool.eq_iff_iff, decide_eq_true_eq, beq_iff_eq, ByteArray.toList_eq, ByteArray.toList_eq]
  constructor
  · intro h
    obtain ⟨x⟩ := a; obtain ⟨y⟩ := b
    have : x = y := by rw [← Array.toList_inj]; exact h
    rw [this]
  · rintro rfl; rfl
/-- A rule's six cells at block N. -/
def RuB (N : Nat) (r : RuleT) (ka : Option Addr) (cap : Nat) (w : World) : Prop := w.heap[N]? = some (.cells #[.string r.name, .int .i64 r.pat.kind, .string r.pat.text, .int .i64 r.pat.n, .string r.pat.name, .slice ka r.pat.kids.length cap] 39 (0, 0))
theorem RuB.lt {N cap : Nat} {r : RuleT} {ka : Option Addr} {w : World} (h : RuB N r ka cap w) : N < w.heap.size := (Array.getElem?_eq_some_iff.1 h).1
theorem RuB.kept {N cap : Nat} {r : RuleT} {ka : Option Addr} {w w' : World} {X : Nat → Prop} (h : RuB N r ka cap w) (hk : Kept X w w') (hx : ¬ X N) : RuB N r ka cap w' := by
  unfold RuB; rw [hk.block N h.lt hx]; exact h
theorem RuB.cells {N cap : Nat} {r : RuleT} {ka : Option Addr} {w : World} (h : RuB N r ka cap w) : w.cell? ⟨N, 0, none⟩ = some (.string r.name) ∧ w.cell? ⟨N, 1, none⟩ = some (.int .i64 r.pat.kind) ∧ w.cell? ⟨N, 2, none⟩ = some (.string r.pat.text) ∧ w.cell? ⟨N, 3, none⟩ = some (.int .i64 r.pat.n) ∧ w.cell? ⟨N, 4, none⟩ = some (.string r.pat.name) ∧ w.cell? ⟨N, 5, none⟩ = some (.slice ka r.pat.kids.length cap) := by
  unfold RuB at h
  refine ⟨?_, ?_, ?_, ?_, ?_, ?_⟩ <;> (rw [cell_of_row w N _ _ _ _ h]; rfl)
set_option maxRecDepth 100000 in
/-- The closure of scan.Rules: another rule's name. -/
theorem rules1_any (S : Nat → Prop) (N : Nat) (n : ByteArray) (w : World) (hN : w.cell? ⟨N, 0, none⟩ = some (.string n)) (hlt : N < w.heap.size) : PredR S 34 #[.pointer (some ⟨N, 0, none⟩)] (fun r => decide (r.name = n)) w := by
  intro W v r hk hv
  obtain ⟨ka, cap, rfl, _, _⟩ := hv
  have x0 : W.cell? ⟨N, 0, none⟩ = some (.string n) := (hk.cell hlt (fun h => h)).trans hN
  have hltW := Nat.lt_of_lt_of_le hlt hk.size
  have x1 : (W.alloc (.cells #[.string r.name, .int .i64 r.pat.kind, .string r.pat.text, .int .i64 r.pat.n, .string r.pat.name, .slice ka r.pat.kids.length cap] 39)).cell? ⟨N, 0, none⟩ = some (.string n) := by rw [World.cell?_alloc_past _ _ _ hltW]; exact x0
  have fin : Hid (decide (r.name = n) = (r.name.toList == n.toList)) := beqD.symm
  clear hN
  show Calls Try.prog 34 #[_, .pointer (some ⟨N, 0, none⟩)] W _
  go_enter Try.func34, Try.ntmps34
  go_wp2_with fail
  go_ret
  exact ⟨by rw [fin.out]; try rfl, (Kept.refl _ _).alloc _⟩

theorem PatV.kept' {w w' : World} {v : Value} {p : PatT} (h : PatV w (· < w.heap.size) v p) (hk : Kept Nix w w') : PatV w' (· < w'.heap.size) v p := by
  obtain ⟨ka, cap, rfl, hz, hp⟩ := h
  exact ⟨ka, cap, rfl, hz, hp.to hk (Safe.lt (Nat.le_refl _)) fun b hb => Nat.lt_of_lt_of_le hb hk.size⟩
set_option maxRecDepth 100000 in
set_option maxHeartbeats 4000000 in
theorem rules_any (l : List RuleT) (al : Option Addr) (cl : Nat) (w : World) (hl : RulesAt w (· < w.heap.size) al l) (hlen : l.length ≤ 1048576) (hcl : l.length ≤ cl) :
    Calls Try.prog 10 #[.slice al l.length cl] w (IntQ (rulesF l) w) := by
  have HA : Hid (∀ wy, Kept Nix w wy → RulesAt wy (· < w.heap.size) al l) := fun wy hk => hl.to hk (Safe.lt (Nat.le_refl _)) (fun _ h => h)
  have eg : ∀ args wy, (callFunc 34 args).run Try.prog wy = .ok (.enter 34 args) wy := fun _ _ => by kernel_rfl
  have EG := Lib.hid eg
  have hmf : ∀ (fn : Fn) (first cap : Array Value) (w : World), (Instr.makeFunc fn first cap).run Try.prog w = .ok (.func fn first cap) w := fun _ _ _ _ => rfl
  clear hl eg
  by_cases hbig : 64 < l.length
  · have fin : Hid (rulesF l = 5) := if_pos hbig
    have d1 : decide ((64 : Int) < (l.length : Int)) = true := decide_eq_true (by omega)
    have d2 : decide (64 < l.length) = true := decide_eq_true hbig
    clear hbig
    go_enter Try.func10, Try.ntmps10
    go_wp2_with fail
    go_ret
    exact ⟨by rw [fin.out]; try rfl, Kept.refl _ _⟩
  have hrf : Hid (rulesF l = rGo [] l) := if_neg hbig
  have d1 : decide ((64 : Int) < (l.length : Int)) = false := decide_eq_false (by omega)
  have d2 : decide (64 < l.length) = false := decide_eq_false hbig
  have hl64 : l.length ≤ 64 := by omega
  clear hbig
  go_enter Try.func10, Try.ntmps10
  go_wp2_with fail
  go_loopw [11] (fun i wr => ∃ j : Nat, j ≤ l.length ∧ i = .int .i64 j ∧ Hid (rulesF l = rGo ((l.take j).map RuleT.name) (l.drop j)) ∧ Kept Nix w wr) (fun i _ => l.length - (intOf i).toNat)
  case atStart => exact ⟨0, Nat.zero_le _, rfl, by unfold Hid; rw [List.drop_zero, List.take_zero]; exact hrf.out, Kept.refl _ _⟩
  case round =>
    obtain ⟨j, hj, rfl, hno, hk⟩ := hrel
    have KW := Lib.hid hk
    clear hk
    by_cases hlt : j < l.length
    · obtain ⟨b, o, rfl, hc⟩ := (HA.out wr KW.out) (by omega)
      have hr := hc j hlt
      have hd := rGo_drop l j hlt
      have htake : Hid (RulesAt wr (· < w.heap.size) (some ⟨b, o, none⟩) (l.take j)) := (HA.out wr KW.out).take j hj
      have htl : (l.take j).length = j := by rw [List.length_take]; omega
      obtain ⟨q0, q1, q2, q3, q4, ka, cap, q5, hks⟩ := hr.cells
      obtain ⟨-, hnz, hsz, -, hpat⟩ := hr
      have hz := hpat.open.2.1
      generalize hprs : l.take j = prs at *
      obtain ⟨r, hrd⟩ : ∃ r, r = l[j] := ⟨_, rfl⟩
      rw [← hrd] at hd q0 q1 q2 q3 q4 q5 hks hnz hsz hpat hz
      have hnl : r.name.size ≤ maxLen := by unfold maxLen; omega
      have HKS := Lib.hid hks; have HTL := Lib.hid htl; have HZ := Lib.hid hz
      have SWr : Hid (Safe (· < w.heap.size) Nix wr.heap.size) := Safe.lt KW.out.size
      clear hc hpat hrd hprs hks htl hz
      go_upto_region 6 with fail
      obtain ⟨w6, hw6⟩ : ∃ w6, w6 = wr.alloc (.cells #[.string r.name, .int .i64 r.pat.kind, .string r.pat.text, .int .i64 r.pat.n, .string r.pat.name, .slice ka r.pat.kids.length cap] 39) := ⟨_, rfl⟩
      have RB : Hid (RuB wr.heap.size r ka cap w6) := by rw [hw6]; exact heap_alloc_new wr _
      have KA : Hid (Kept Nix wr w6) := by rw [hw6]; exact (Kept.refl _ _).alloc _
      have HW6 := Lib.hid hw6
      rw [← hw6]
      clear hw6 q0 q1 q2 q3 q4 q5
      obtain ⟨x0, x1, x2, x3, x4, x5⟩ := RB.out.cells
      have T6 : Hid (RulesAt w6 (· < w.heap.size) (some ⟨b, o, none⟩) prs) := htake.out.to KA.out SWr.out (fun _ h => h)
      have S6 := Lib.hid (SWr.out.mono KA.out.size)
      have K6 := Lib.hid (KW.out.trans KA.out)
      have HH : Hid (Calls Try.prog 33 #[.slice (some ⟨b, o, none⟩) j cl, .func (.func 34) #[] #[.pointer (some ⟨wr.heap.size, 0, none⟩)]] w6 (BoolQ (decide (r.name ∈ prs.map RuleT.name)) w6)) := by
        have h := hasR_any 34 #[.pointer (some ⟨wr.heap.size, 0, none⟩)] (fun q => decide (q.name = r.name)) EG.out (· < w.heap.size) prs (some ⟨b, o, none⟩) cl w6 T6.out S6.out (by have := HTL.out; omega) (rules1_any _ wr.heap.size r.name w6 RB.out.cells.1 RB.out.lt)
        rw [any_name, HTL.out] at h
        exact h
      have hPV : Hid (PatV w6 (· < w6.heap.size) (.agg #[.int .i64 r.pat.kind, .string r.pat.text, .int .i64 r.pat.n, .string r.pat.name, .slice ka r.pat.kids.length cap]) r.pat) := ⟨ka, cap, rfl, HZ.out, HKS.out.to KA.out SWr.out (fun b hb => Nat.lt_of_lt_of_le hb K6.out.size)⟩
      have hjc : j ≤ cl := by omega
      cases hnm : namedF r.name with
      | false =>
        rw [if_pos (.inl hnm)] at hd
        have fin := Lib.hid (hno.out.trans hd)
        have HNM := Lib.hid hnm
        clear hd hnm
        go_wp2_with (go_at_call 32; (refine (named_any r.name w6 hnl).mono ?_); rintro e w' ⟨rfl, hw_⟩; obtain rfl := hw_; rw [HNM.out])
        go_ret
        exact ⟨by rw [fin.out]; try rfl, K6.out⟩
      | true =>
        have HNM := Lib.hid hnm
        by_cases hin : r.name ∈ prs.map RuleT.name
        · rw [if_pos (.inr hin)] at hd
          have fin := Lib.hid (hno.out.trans hd)
          rw [decide_eq_true hin] at HH
          clear hd hnm hin
          go_wp2_with (first
            | (go_at_call 32; (refine (named_any r.name w6 hnl).mono ?_); rintro e w' ⟨rfl, hw_⟩; obtain rfl := hw_; rw [HNM.out])
            | (go_at_call 33; (refine HH.out.mono ?_); rintro e w7 ⟨rfl, k7_⟩; have K7 := Lib.hid (K6.out.trans k7_); clear k7_))
          go_ret
          exact ⟨by rw [fin.out]; try rfl, K7.out⟩
        · rw [if_neg (fun h => h.elim (fun h => by rw [hnm] at h; cases h) hin)] at hd
          rw [decide_eq_false hin] at HH
          have HWR : Hid (∀ wy, Kept Nix w6 wy → Calls Try.prog 9 #[.agg #[.int .i64 r.pat.kind, .string r.pat.text, .int .i64 r.pat.n, .string r.pat.name, .slice ka r.pat.kids.length cap]] wy (fun e w' => e = .returned (.int .i64 (wrongF r.pat)) ∧ Kept Nix wy w')) := fun wy hk => Wrong_any r.pat _ wy (hPV.out.kept' hk) (by omega)
          clear hnm hin
          by_cases hw0 : wrongF r.pat = 0
          · rw [if_neg (fun h => h hw0)] at hd
            have step := Lib.hid (hno.out.trans hd)
            rw [hw0] at HWR
            clear hd hw0
            go_wp2_with (first
              | (go_at_call 32; (refine (named_any r.name w6 hnl).mono ?_); rintro e w' ⟨rfl, hw_⟩; obtain rfl := hw_; rw [HNM.out])
              | (go_at_call 33; (refine HH.out.mono ?_); rintro e w7 ⟨rfl, k7_⟩; have K7 := Lib.hid k7_; have R7 := RB.out.kept k7_ (fun h => h); obtain ⟨y0, y1, y2, y3, y4, y5⟩ := R7.cells; clear k7_)
              | (go_at_call 9; (refine (HWR.out w7 K7.out).mono ?_); rintro e w8 ⟨rfl, k8_⟩; have K8 := Lib.hid ((K6.out.trans K7.out).trans k8_); clear k8_))
            go_roundw
            case rel => exact ⟨j + 1, by omega, by go_num, step, K8.out⟩
            case measure => simp [intOf]; omega
          · rw [if_pos hw0] at hd
            have fin := Lib.hid (hno.out.trans hd)
            have z1 : (wrongF r.pat != 0) = true := by simpa using hw0
            clear hd hw0
            go_wp2_with (first
              | (go_at_call 32; (refine (named_any r.name w6 hnl).mono ?_); rintro e w' ⟨rfl, hw_⟩; obtain rfl := hw_; rw [HNM.out])
              | (go_at_call 33; (refine HH.out.mono ?_); rintro e w7 ⟨rfl, k7_⟩; have K7 := Lib.hid k7_; have R7 := RB.out.kept k7_ (fun h => h); obtain ⟨y0, y1, y2, y3, y4, y5⟩ := R7.cells; clear k7_)
              | (go_at_call 9; (refine (HWR.out w7 K7.out).mono ?_); rintro e w8 ⟨rfl, k8_⟩; have K8 := Lib.hid ((K6.out.trans K7.out).trans k8_); clear k8_))
            go_ret
            exact ⟨by rw [fin.out]; try rfl, K8.out⟩
    · obtain rfl : j = l.length := by omega
      have fin : Hid (rulesF l = 0) := by unfold Hid; rw [hno.out, List.drop_length, rGo]
      go_wp2_with fail
      go_ret
      exact ⟨by rw [fin.out]; try rfl, KW.out⟩
end Go.Proofs.Ytdkpdomggbiolaa
