/- The walk of CheckReached. -/
import Derived.Test.YtkhhinmhgjicgaaDdL
import Derived.Test.YtkhhinmhgjicgaaChk
namespace Go.Proofs.Ytkhhinmhgjicgaa
set_option linter.all false
open Go.RowKit

def sL : ByteArray := ⟨#[76]⟩
def sSIZE : ByteArray := ⟨#[83, 73, 90, 69]⟩
/-- An empty statement that leads to a label that is nowhere. -/
def aliveS : StT := ⟨noB, 1, noP, noP, noP, noB, noB, [], [], sL, noB, noB⟩
theorem alive_check : checkF [aliveS] = (6, 0) := by
  have hw : wrGo 0 [aliveS] = none := by
    have h : wrongS aliveS = 0 := by decide +kernel
    rw [wrGo, if_pos h]; rfl
  have hn : nmGo [aliveS] 0 [aliveS] = none := by
    rw [nmGo, if_pos (show namedP [aliveS] 0 aliveS from ⟨.inl rfl, fun h => absurd (show (1 : Int) = 7 from h) (by decide)⟩)]; rfl
  have hu : usesF [aliveS] aliveS = 6 := by decide +kernel
  exact check_us (by decide) hw hn (by rw [usGo, if_neg (by rw [hu]; decide), hu])
theorem alive_sz : StSz aliveS := by
  have hp : PatSz noP := by first | exact ⟨⟨by decide, by decide, by decide⟩, by decide⟩ | exact ⟨by decide, ⟨by decide, by decide, by decide⟩⟩
  exact { label := by decide, target := hp, value := hp, pat := hp, name := by decide, entry := by decide, params := by simp [aliveS], locals := by simp [aliveS], always := by decide, yes := by decide, noes := by decide }
theorem alive_builtin : builtinF sSIZE = 1 := by decide +kernel
theorem ReachQ.good2 {l : List StT} {w : World} {e : Ending} {w' : World} (h : ReachQ l w e w') (hc : (checkF l).1 = 0) : ∃ B o, e = .returned (.tuple #[.slice (some ⟨B, 0, none⟩) l.length l.length, .agg #[.int .i64 0, .int .i64 0]]) ∧ BRow w' B l.length o ∧ (∀ i, o i = true ↔ Rch l i) ∧ w.heap.size ≤ B ∧ Kept Nix w w' := by
  obtain ⟨B, o, h1, h2, h3, h4⟩ := h.2.2 hc
  exact ⟨B, o, h1, h2, h3, h4, h.1⟩
set_option maxRecDepth 100000 in
set_option maxHeartbeats 2000000 in
theorem alive_walk (w : World) : Calls Try.prog 11 #[] w (BoolQ true w) := by
  have HB : Hid (∀ wy, Calls Try.prog 7 #[.string sSIZE] wy fun e w' => e = .returned (.int .i64 1) ∧ w' = wy) := fun wy => by
    have h := builtin_any sSIZE wy
    rw [alive_builtin] at h; exact h
  have HC : Hid (∀ wy, StB w.heap.size noA aliveS wy → Kept Nix w wy → Calls Try.prog 5 #[.slice (some ⟨w.heap.size, 0, none⟩) 1 1] wy (FaultQ (6, 0) wy)) := fun wy hB hk => by
    have h := check_any [aliveS] (some ⟨w.heap.size, 0, none⟩) 1 (· < wy.heap.size) wy (fun _ => ⟨_, _, rfl, fun i hi => by
      obtain rfl : i = 0 := by simpa using hi
      refine ⟨noA, hB.lt, alive_sz, fun j hj => by rw [Nat.zero_mul, Nat.add_zero]; exact hB.hc j hj, ?_⟩
      exact ⟨by show PatsAt wy _ none []; unfold PatsAt; trivial, by show PatsAt wy _ none []; unfold PatsAt; trivial, by show PatsAt wy _ none []; unfold PatsAt; trivial, fun h => absurd (show (0 : Nat) < 0 from h) (by decide), fun h => absurd (show (0 : Nat) < 0 from h) (by decide)⟩⟩) (Safe.lt (Nat.le_refl _)) (by decide)
    rw [alive_check] at h; exact h
  have hfield : ∀ wy, (Instr.field 25 (.agg #[.int .i64 6, .int .i64 0]) 0).run Try.prog wy = .ok (.int .i64 6) wy := fun _ => by kernel_rfl
  go_enter Try.func11, Try.ntmps11
  go_wp2_with (first
    | (refine wpList_build_st rfl (.tmp 1) rfl noA aliveS rfl ?_; intro w1 hB1 hk1; have HB1 := Lib.hid hB1; have K1 := Lib.hid hk1; clear hB1 hk1)
    | (go_at_call 5; (refine (HC.out w1 HB1.out K1.out).mono ?_); rintro e w2 ⟨rfl, k2_⟩; have K2 := Lib.hid (K1.out.trans k2_); clear k2_)
    | (go_at_call 7; (refine (HB.out w2).mono ?_); rintro e w' ⟨rfl, hw_⟩; obtain rfl := hw_.symm))
  go_ret
  exact ⟨rfl, K2.out⟩

set_option maxRecDepth 100000 in
set_option maxHeartbeats 8000000 in
theorem checkReached_walk (l : List StT) (al : Option Addr) (cl : Nat) (w : World) (hl : StsAt w (· < w.heap.size) al l) (hlen : l.length ≤ 1048576) :
    Calls Try.prog 4 #[.slice al l.length cl] w (BoolQ true w) := by
  have HA : Hid (∀ wy, Kept Nix w wy → StsAt wy (· < w.heap.size) al l ∧ Safe (· < w.heap.size) Nix wy.heap.size) := fun wy hk => ⟨hl.to hk (Safe.lt (Nat.le_refl _)) (fun _ h => h), Safe.lt hk.size⟩
  clear hl
  by_cases hc : (checkF l).1 = 0
  rotate_left
  · have e1 : ((checkF l).1 != 0) = true := by simpa using hc
    have HCC := Lib.hid hc
    clear hc
    go_enter Try.func4, Try.ntmps4
    go_wp2_with (first
      | (go_at_call 11; (refine (alive_walk w).mono ?_); rintro e w1 ⟨rfl, k1_⟩; have K1 := Lib.hid k1_; clear k1_)
      | (go_at_call 9; (refine (reached_any l al cl _ w1 (HA.out _ K1.out).1 (HA.out _ K1.out).2 hlen).mono ?_); rintro e w2 h_; obtain ⟨rfl, k2_⟩ := h_.bad HCC.out; have K2 := Lib.hid (K1.out.trans k2_); clear k2_ h_))
    go_ret
    exact ⟨rfl, K2.out.alloc _⟩
  have HCC := Lib.hid hc
  clear hc
  have hlen' : Hid (l.length ≤ 1000) := by have := (check_right HCC.out).1; unfold Hid; omega
  go_enter Try.func4, Try.ntmps4
  go_upto_region 6 with (first
    | (go_at_call 11; (refine (alive_walk w).mono ?_); rintro e w1 ⟨rfl, k1_⟩; have K1 := Lib.hid k1_; clear k1_)
    | (go_at_call 9; (refine (reached_any l al cl _ w1 (HA.out _ K1.out).1 (HA.out _ K1.out).2 hlen).mono ?_); rintro e w2 h_; obtain ⟨Ba, oa, rfl, ba_, ra_, k2_⟩ := h_.good HCC.out; have BA2 := Lib.hid ba_; have RA := Lib.hid ra_; have K2 := Lib.hid (K1.out.trans k2_); clear k2_ ba_ ra_ h_))
  obtain ⟨w3, hw3⟩ : ∃ w3, w3 = w2.alloc (.cells #[.int .i64 0, .int .i64 0] 25) := ⟨_, rfl⟩
  have k23 : Kept Nix w2 w3 := by rw [hw3]; exact (Kept.refl _ _).alloc _
  have G3 : Hid (Fl w2.heap.size 0 0 w3) := by rw [hw3]; exact heap_alloc_new w2 _
  have BA3 := Lib.hid (BA2.out.kept k23 (fun h => h)); have K3 := Lib.hid (K2.out.trans k23)
  have HBG : Hid (Ba ≠ w2.heap.size ∧ Ba < w3.heap.size ∧ w2.heap.size < w3.heap.size) := ⟨by have := BA2.out.lt; omega, BA3.out.lt, G3.out.lt⟩
  have HW3 := Lib.hid hw3
  have hO0 : Hid (0 < l.length → oa 0 = true) := fun h => (RA.out 0).2 (.zero h)
  clear hw3 k23
  rw [← HW3.out]
  clear HW3
  go_upto_region 6 with fail
  go_cut [35] (fun c wx => c = .bool false ∧ w3 = wx)
  case first =>
    by_cases hl0 : 0 < l.length
    · have x1 := BA3.out.cell hl0
      rw [hO0.out hl0] at x1
      go_wp2_with fail
      go_meet
      exact ⟨rfl, rfl⟩
    · obtain rfl : l = [] := List.eq_nil_of_length_eq_zero (by omega)
      go_wp2_with fail
      go_meet
      exact ⟨rfl, rfl⟩
  case rest =>
    obtain ⟨rfl, rfl⟩ := hcut
    go_upto_region 10 with fail
    obtain ⟨i0, hi0, hz0, hz1, hz2⟩ := info_parts infoStZ
    obtain ⟨Bk, hBk⟩ : ∃ n, n = w3.heap.size := ⟨_, rfl⟩
    have HBK := Lib.hid hBk
    have hwB : Hid (w.heap.size ≤ Bk) := by rw [hBk]; exact K3.out.size
    clear hBk
    have HSX : Hid (∀ X : Nat → Prop, (∀ b, X b → w.heap.size ≤ b) → ∀ n, w.heap.size ≤ n → Safe (· < w.heap.size) X n) := fun X hX n hn b hb => ⟨Nat.lt_of_lt_of_le hb hn, fun h => by have := hX b h; have : b < w.heap.size := hb; omega⟩
    go_loopw [5, 38] (fun v i wr => ∃ (j : Nat) (cs : List Value) (a : Option Addr) (c : Nat), j ≤ l.length ∧ v = .slice a j c ∧ i = .int .i64 j ∧ Win wr Bk 41 24 v j cs ∧ Row24 wr (· < w.heap.size) cs ((killL oa l).take j) ∧ Kept Nix w3 wr) (fun _ i _ => l.length - (intOf i).toNat)
    case atStart => exact ⟨0, [], none, 0, Nat.zero_le _, rfl, rfl, Win.nil .., by rw [List.take_zero]; rfl, Kept.refl _ _⟩
    case round =>
      obtain ⟨j, cs, a, c, hj, rfl, rfl, hW, hR, hk⟩ := hrel
      have W0 := Lib.hid hW; have R0 := Lib.hid hR; have KR := Lib.hid hk
      clear hW hR hk
      by_cases hlt : j < l.length
      · obtain ⟨b, ol, rfl, hc⟩ := (HA.out wr (K3.out.trans KR.out)).1 (by omega)
        obtain ⟨sa, hSb, hz, hcc, ho⟩ := hc j hlt
        have htk : Hid ((killL oa l).take (j + 1) = (killL oa l).take j ++ [killS oa j l[j]]) := by
          unfold Hid
          rw [List.take_succ_eq_append_getElem (by rw [kill_len]; exact hlt), kill_at j hlt]
        obtain ⟨s, hsd⟩ : ∃ s, s = l[j] := ⟨_, rfl⟩
        rw [← hsd] at hz hcc ho htk
        have HZ := Lib.hid hz; have HO := Lib.hid ho
        have hwr : Hid (w.heap.size ≤ wr.heap.size) := by have := K3.out.size; have := KR.out.size; unfold Hid; omega
        clear hc hz ho hsd
        go_upto_region 12 with (first
          | (refine wpList_load_st rfl _ rfl b (ol + j * 24) rfl sa s hcc ?_)
          | (refine wpList_store_st rfl _ _ rfl wr.heap.size rfl sa s rfl _ (heap_alloc_new wr _) rfl ?_; intro w6 hB6 hk6; have KA6 : Hid (Kept Nix wr w6) := ((Kept.refl Nix wr).alloc _).step hk6 (fun y hy => .inr (by subst hy; exact Nat.le_refl _)); have HB6 := Lib.hid hB6; clear hB6 hk6))
        obtain ⟨g6, hg6⟩ : ∃ g, g = wr.heap.size := ⟨_, rfl⟩
        rw [← hg6] at HB6 ⊢
        have HG6 := Lib.hid hg6
        have x1 := (BA3.out.kept (KR.out.trans KA6.out) (fun h => h)).cell hlt
        have O6 : Hid (StOk w6 (· < w.heap.size) sa s) := HO.out.to KA6.out (HSX.out _ (fun _ h => h.elim) _ hwr.out) (fun _ h => h)
        obtain ⟨c0, c1, _⟩ := HB6.out.cells
        have hfz : Hid (∀ old : Array Value, True) := fun _ => trivial
        clear hg6 hcc
        try dsimp only [Act.put]
        go_cut [52] (fun c wx => c = .bool (decide (oa j = false ∧ s.kind ≠ 7)) ∧ w6 = wx)
        case first =>
          cases hob : oa j with
          | true =>
            have fin : Hid (decide (oa j = false ∧ s.kind ≠ 7) = false) := decide_eq_false (fun h => by rw [hob] at h; cases h.1)
            rw [hob] at x1
            clear hob
            go_wp2_with fail
            go_meet
            exact ⟨by rw [fin.out], rfl⟩
          | false =>
            rw [hob] at x1
            by_cases h7 : s.kind = 7
            · have fin : Hid (decide (oa j = false ∧ s.kind ≠ 7) = false) := decide_eq_false (fun h => h.2 h7)
              have e7 : (s.kind != 7) = false := by simpa using h7
              clear hob h7
              go_wp2_with fail
              go_meet
              exact ⟨by rw [fin.out], rfl⟩
            · have fin : Hid (decide (oa j = false ∧ s.kind ≠ 7) = true) := decide_eq_true ⟨hob, h7⟩
              have e7 : (s.kind != 7) = true := by simpa using h7
              clear hob h7
              go_wp2_with fail
              go_meet
              exact ⟨by rw [fin.out], rfl⟩
        case rest =>
        obtain ⟨rfl, rfl⟩ := hcut
        go_upto_if 52 with fail
        go_cut [52] (fun _ wx => ∃ sa', StB g6 sa' (killS oa j s) wx ∧ StOk wx (· < w.heap.size) sa' (killS oa j s) ∧ Kept Nix wr wx)
        case first =>
          by_cases hkl : oa j = false ∧ s.kind ≠ 7
          · have fin : Hid (killS oa j s = emptyS s) := by unfold Hid killS; rw [if_neg]; rintro (h | h); rw [hkl.1] at h; cases h; exact hkl.2 h
            have hB6 : w6.heap[g6]? = some (.cells (stCells sa s).toArray 41 (0, 0)) := HB6.out
            have HB6' := Lib.hid hB6
            rw [decide_eq_true hkl]
            clear hkl hB6
            go_wp2_with (refine wpList_store_st rfl _ _ rfl g6 rfl noA (emptyS s) rfl _ HB6'.out rfl ?_; intro w7 hB7 hk7; have HB7 := Lib.hid hB7; have K7 : Hid (Kept Nix wr w7) := KA6.out.step hk7 (fun y hy => .inr (by subst hy; have := HG6.out; omega)); clear hB7 hk7)
            go_meet
            rw [fin.out]
            exact ⟨noA, HB7.out, empty_ok _ _ _, K7.out⟩
          · have fin : Hid (killS oa j s = s) := by
              unfold Hid killS; rw [if_pos]
              cases hob : oa j with
              | true => exact .inl rfl
              | false => exact .inr (by by_cases h7 : s.kind = 7; exact h7; exact absurd ⟨hob, h7⟩ hkl)
            rw [decide_eq_false hkl]
            clear hkl
            go_wp2_with fail
            go_meet
            rw [fin.out]
            exact ⟨sa, HB6.out, O6.out, KA6.out⟩
        case rest =>
          obtain ⟨sa', hB8, hO8, hK8⟩ := hcut
          obtain ⟨w8, hw8⟩ : ∃ x, x = wc := ⟨_, rfl⟩
          rw [← hw8] at hB8 hO8 hK8 ⊢
          have HB8 := Lib.hid hB8; have O8 := Lib.hid hO8; have K8 := Lib.hid hK8
          have HC8 := Lib.hid hB8.hc
          have hz8 : Hid (StSz (killS oa j s)) := by unfold Hid killS; split; exact HZ.out; exact empty_sz HZ.out
          generalize killS oa j s = s' at *
          have HLT := Lib.hid hlt
          clear hw8 hB8 hO8 hK8 c0 c1 x1 HB6 O6
          go_wp2_with (first
            | (refine wpList_load_st rfl _ rfl g6 0 rfl sa' s' HC8.out ?_)
            | (refine wpList_build_st rfl (.tmp 57) rfl sa' s' rfl ?_; intro w9 hB9 hk9; have HB9 := Lib.hid hB9; have K9 := Lib.hid hk9; clear hB9 hk9)
            | (at_builtin; go_loud (refine wpList_append_win _ rfl (.tmp 56) (.tmp 58) 22 22 rfl Bk 41 i0 stZero 24 368 Try.underlying22 hi0 hz0 hz1 hz2 rfl _ j cs rfl (W0.out.kept (K8.out.trans K9.out) (fun _ _ h => h)) _ 1 (stCells sa' s') rfl (st_src HB9.out) (by have := hlen'.out; have := HLT.out; unfold maxLen; omega) (by have := hlen'.out; have := HLT.out; omega) (by have := KR.out.size; have := K8.out.size; have := K9.out.size; have := HBK.out; omega) ?_); intro a10 c10 w10 hW10 hg10 _; have W10 := Lib.hid hW10; have KG : Hid (Kept (fun b => Bk ≤ b) w9 w10) := (Kept.refl _ w9).grown hg10 (fun k hk => .inl (W0.out.lt k hk).1); clear hW10 hg10))
          have hwr9 : Hid (w.heap.size ≤ w9.heap.size ∧ w.heap.size ≤ w8.heap.size) := by have h1 := hwr.out; have h2 := K8.out.size; have h3 := K9.out.size; unfold Hid; omega
          have K10 : Hid (Kept Nix w3 w10) := ((KR.out.trans K8.out).trans K9.out).step KG.out (fun y hy => .inr (by rw [← HBK.out]; exact hy))
          have hX : ∀ b, Bk ≤ b → w.heap.size ≤ b := fun b hb => Nat.le_trans hwB.out hb
          have R10 : Hid (Row24 w10 (· < w.heap.size) (cs ++ stCells sa' s') ((killL oa l).take (j + 1))) := by
            rw [htk.out]
            have r1 := (R0.out.kept (K8.out.trans K9.out) (HSX.out _ (fun _ h => h.elim) _ hwr.out)).kept KG.out (HSX.out _ hX _ hwr9.out.1)
            have o1 := (O8.out.to K9.out (HSX.out _ (fun _ h => h.elim) _ hwr9.out.2) (fun _ h => h)).to KG.out (HSX.out _ hX _ hwr9.out.1) (fun _ h => h)
            exact r1.append (Row24.one hz8.out o1)
          clear hX
          go_roundw
          case rel => exact ⟨j + 1, _, a10, c10, by have := HLT.out; omega, rfl, by go_num, W10.out, R10.out, K10.out⟩
          case measure => have := HLT.out; simp [intOf]; omega
      · obtain rfl : j = l.length := by omega
        have hR : Hid (Row24 wr (· < w.heap.size) cs (killL oa l)) := by have h_ := R0.out; rw [List.take_of_length_le (by rw [kill_len]; exact Nat.le_refl _)] at h_; exact h_
        have hwr : Hid (w.heap.size ≤ wr.heap.size) := by have := K3.out.size; have := KR.out.size; unfold Hid; omega
        have hkr := Lib.hid (kill_right (o := oa) HCC.out)
        have HRC : Hid (Calls Try.prog 9 #[.slice a l.length c] wr (ReachQ (killL oa l) wr)) := by
          have hW' := W0.out
          rw [← kill_len (o := oa)] at hW'
          obtain ⟨a', c', hv, hs⟩ := hW'.sts hR.out (HSX.out _ (fun _ h => h.elim) _ hwr.out) (S' := (· < wr.heap.size)) (fun b hb => Nat.lt_of_lt_of_le hb hwr.out) (fun g hg => (hW'.lt g hg).2)
          simp only [Value.slice.injEq, true_and] at hv
          obtain ⟨rfl, rfl⟩ := hv
          have h := reached_any (killL oa l) a c _ wr hs (Safe.lt (Nat.le_refl _)) (by rw [kill_len]; exact hlen)
          rw [kill_len] at h
          exact h
        have GR := Lib.hid (G3.out.kept KR.out (fun h => h)); have BAR := Lib.hid (BA3.out.kept KR.out (fun h => h))
        clear W0 R0 hR
        go_upto_region 17 with (go_at_call 9; (refine HRC.out.mono ?_); rintro e w11 h_; obtain ⟨Bb, ob, he_, bb_, rb_, hrb_, k11_⟩ := h_.good2 (by rw [hkr.out]); rw [kill_len] at he_ bb_; obtain rfl := he_; have BB11 := Lib.hid bb_; have RB := Lib.hid rb_; have HRB := Lib.hid hrb_; have K11 := Lib.hid k11_; have G11 := Lib.hid (GR.out.kept k11_ (fun h => h)); have BA11 := Lib.hid (BAR.out.kept k11_ (fun h => h)); clear k11_ bb_ rb_ h_; obtain ⟨g0, g1, g2, g3⟩ := G11.out.cells)
        have KF : Kept (· = w2.heap.size) w11 ((w11.setCell ⟨w2.heap.size, 0, none⟩ (.int .i64 0)).setCell ⟨w2.heap.size, 1, none⟩ (.int .i64 0)) := ((Kept.refl (· = w2.heap.size) w11).setCell (p := ⟨w2.heap.size, 0, none⟩) (.inl rfl) _).setCell (p := ⟨w2.heap.size, 1, none⟩) (.inl rfl) _
        obtain ⟨w12, hw12⟩ : ∃ w12, w12 = ((w11.setCell ⟨w2.heap.size, 0, none⟩ (.int .i64 0)).setCell ⟨w2.heap.size, 1, none⟩ (.int .i64 0)) := ⟨_, rfl⟩
        have G12 : Hid (Fl w2.heap.size 0 0 w12) := by rw [hw12]; exact G11.out.set 0 0
        rw [← hw12] at KF ⊢
        have BA12 := Lib.hid (BA11.out.kept KF HBG.out.1)
        have hbb : Bb ≠ w2.heap.size := by have h1 := HRB.out; have h2 := KR.out.size; have h3 := HBG.out.2.2; omega
        have BB12 := Lib.hid (BB11.out.kept KF hbb)
        have K12 : Hid (Kept Nix w w12) := ((K3.out.trans KR.out).trans K11.out).step KF (fun y hy => .inr (by have : y = w2.heap.size := hy; have := K2.out.size; omega))
        have HAB : Hid (oa = ob) := by
          funext i
          rw [Bool.eq_iff_iff, RA.out, RB.out, kill_rch RA.out]
        have HKF := Lib.hid KF
        clear hw12 KF g0 g1 g2 g3 hbb
        obtain ⟨g0, g1, g2, g3⟩ := G12.out.cells
        go_upto_region 20 with fail
        go_loopw [78] (fun i wr => ∃ j : Nat, j ≤ l.length ∧ i = .int .i64 j ∧ Kept Nix w12 wr) (fun i _ => l.length - (intOf i).toNat)
        case atStart => exact ⟨0, Nat.zero_le _, rfl, Kept.refl _ _⟩
        case round =>
          obtain ⟨j, hj, rfl, hk⟩ := hrel
          have KR2 := Lib.hid hk
          clear hk g0 g1 g2 g3
          by_cases hlt : j < l.length
          · have x1 := (BA12.out.kept KR2.out (fun h => h)).cell hlt
            have x2 := (BB12.out.kept KR2.out (fun h => h)).cell hlt
            rw [HAB.out] at x1
            generalize ob j = bv at x1 x2
            go_wp2_with fail
            go_quiet (fail)
            go_wp2_with fail
            go_roundw
            case rel => exact ⟨j + 1, by omega, by go_num, KR2.out.drewN _⟩
            case measure => simp [intOf]; omega
          · obtain rfl : j = l.length := by omega
            go_wp2_with fail
            go_ret
            exact ⟨rfl, K12.out.trans KR2.out⟩
end Go.Proofs.Ytkhhinmhgjicgaa
