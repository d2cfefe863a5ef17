/- The document's Left: its walk. -/
import Derived.Test.YtdkpdomggbiolaaDl0
import Derived.Test.YtdkpdomggbiolaaBeg
import Derived.Test.YtdkpdomggbiolaaLt1
import Derived.Test.YtdkpdomggbiolaaRul3
import Derived.Test.YtdkpdomggbiolaaGlRow
import Derived.BigRegion
namespace Go.Proofs.Ytdkpdomggbiolaa
set_option linter.all false
open Go.RowKit

theorem left_bad8 {l : List RuleT} {w w' : World} (h : rulesF l ≠ 0) (k : Kept Nix w w') : LeftQ l w (.returned (.tuple #[.slice none 0 0, .int .i64 (rulesF l)])) w' :=
  ⟨k, [], _, rfl, strs_none _ _, by simp, fun _ => rfl, fun h0 => absurd h0 h⟩
theorem PutV.owned {w w' : World} {v : Value} {L : List ByteArray} {O : Nat} (h : PutV w (fun b => b < O) v L) (hO : O ≤ w.heap.size) (hk : Kept (fun b => O ≤ b) w w') : PutV w' (fun b => b < O) v L :=
  h.kept hk fun b hb => ⟨Nat.lt_of_lt_of_le hb hO, fun h2 => by have h3 : O ≤ b := h2; omega⟩
theorem PutV.wide {w : World} {S S' : Nat → Prop} {v : Value} {L : List ByteArray} (h : PutV w S v L) (hs : ∀ b, S b → S' b) : PutV w S' v L := by
  rcases h with h | ⟨h0, b, o, cap, e, h1, h2, hb, hc⟩
  · exact .inl h
  · exact .inr ⟨h0, b, o, cap, e, h1, h2, hs b hb, hc⟩

set_option maxRecDepth 100000 in
set_option maxHeartbeats 16000000 in
theorem refLeft_any : LeftAll 8 := by
  intro l al cl w hl hlen hcl
  have HA : Hid (∀ wy, Kept Nix w wy → RulesAt wy (· < w.heap.size) al l) := fun wy hk => hl.to hk (Safe.lt (Nat.le_refl _)) (fun _ h => h)
  have HL1 := Lib.hid hl
  clear hl
  by_cases hr0 : rulesF l = 0
  rotate_left
  · have z1 : (rulesF l != 0) = true := by simpa using hr0
    have HR0 := Lib.hid hr0
    clear hr0
    go_enter Try.func8, Try.ntmps8
    go_wp2_with (go_at_call 17; (refine (refRules_any l al cl w HL1.out hlen hcl).mono ?_); rintro e w1 ⟨rfl, k1_⟩; have K1 := Lib.hid k1_; clear k1_)
    go_ret2
    exact left_bad8 HR0.out K1.out
  have HR0 := Lib.hid hr0
  have hrr := rules_right hr0
  have h64 : l.length ≤ 64 := hrr.1
  have HW : Hid (∀ r ∈ l, wrongF r.pat = 0) := fun r hr => (hrr.2.1 r hr).2
  have HND : Hid ((l.map RuleT.name).Nodup) := hrr.2.2
  obtain ⟨i0, hi0, hz0, hz1, hz2⟩ := info_parts infoBl
  obtain ⟨i1, hi1, hy0, hy1, hy2⟩ := info_parts infoRw
  clear hr0 hrr
  go_enter Try.func8, Try.ntmps8
  go_upto_region 6 with (go_at_call 17; (refine (refRules_any l al cl w HL1.out hlen hcl).mono ?_); rintro e w1 ⟨rfl, k1_⟩; rw [HR0.out]; have K1 := Lib.hid k1_; clear k1_)
  go_loopg [5, 6] (2 * l.length + 1) (fun f nv bv wr => ∃ (b : Bool) (L : List ByteArray), bv = .bool b ∧ PutV wr (fun b => b < wr.heap.size) nv L ∧ Hid (DnP l L) ∧ Hid (b = false → ClosedM l (mL L)) ∧ Hid (f = 2 * (l.length - L.length) + (if b = true then 1 else 0)) ∧ Kept Nix w wr)
  case atStart => exact ⟨true, [], rfl, .inl ⟨rfl, rfl⟩, DnP.start l, fun h => (by cases h), by simp [Hid], K1.out⟩
  case round =>
    clear K1
    obtain ⟨b, L, rfl, hV, hP, hC, hf, hk⟩ := hrel
    have KR := Lib.hid hk; have HV := Lib.hid hV
    obtain ⟨a, c, rfl⟩ := hV.shape
    have hLl := hP.out.len
    clear hk hV
    cases b with
    | true =>
      clear hC
      go_upto_region 9 with fail
      obtain ⟨w7, hw7⟩ : ∃ x, x = wr := ⟨_, rfl⟩
      rw [← hw7] at HV KR ⊢
      clear hw7
      go_loopw [5, 6, 28] (fun nv bv i wr => ∃ (L2 : List ByteArray) (b2 : Bool) (j : Nat), bv = .bool b2 ∧ i = .int .i64 j ∧ j ≤ l.length ∧ PutV wr (fun b => b < wr.heap.size) nv L2 ∧ Hid (DnJ l L j b2 L2) ∧ Kept Nix w wr) (fun _ _ i _ => l.length - (intOf i).toNat)
      case atStart => exact ⟨L, false, 0, rfl, rfl, Nat.zero_le _, HV.out, DnJ.start hP.out, KR.out⟩
      case round =>
        clear HV KR
        obtain ⟨L2, b2, j, rfl, rfl, hj, hV2, hJ, hk2⟩ := hrel
        have KJ := Lib.hid hk2; have HV2 := Lib.hid hV2
        obtain ⟨a2, c2, rfl⟩ := hV2.shape
        have hL2 := hJ.out.dn.len
        clear hk2 hV2
        by_cases hlt : j < l.length
        rotate_left
        · obtain rfl : j = l.length := by omega
          have hg2 := Lib.hid hJ.out.dn
          cases b2 with
          | true =>
            have hmeas : Hid (2 * (l.length - L2.length) + 1 < gk) := by have h1 := hf.out; have h2 := hJ.out.le; simp at h1 h2; unfold Hid; omega
            clear hJ hf
            go_wp2_with fail
            go_roundg (2 * (l.length - L2.length) + 1)
            case measure => exact hmeas.out
            case rel => exact ⟨true, L2, rfl, HV2.out, hg2, fun h => (by cases h), rfl, KJ.out⟩
          | false =>
            have hmeas : Hid (2 * (l.length - L2.length) < gk) := by have h1 := hf.out; have h2 := hJ.out.le; simp at h1 h2; unfold Hid; omega
            have hg3 := Lib.hid hJ.out.closed
            clear hJ hf
            go_wp2_with fail
            go_roundg (2 * (l.length - L2.length))
            case measure => exact hmeas.out
            case rel => exact ⟨false, L2, rfl, HV2.out, hg2, fun _ => hg3.out, rfl, KJ.out⟩
        · obtain ⟨b, o, rfl, hc⟩ := (HA.out wr KJ.out) (by omega)
          have hr := hc j hlt
          have HPUT : Hid (emptyF (mL L2) l[j].pat = true → DnJ l L (j + 1) (b2 || moreF L2 l[j].name) (putL L2 l[j].name)) := fun a => hJ.out.put hlt a
          have HNEXT : Hid ((emptyF (mL L2) l[j].pat = true → mL L2 l[j].name = true) → DnJ l L (j + 1) b2 L2) := fun a => hJ.out.next hlt a
          have HKO := Lib.hid (kidsOk_of (HW.out _ (List.getElem_mem hlt)))
          have S0 : Hid (Safe (· < w.heap.size) Nix wr.heap.size) := Safe.lt KJ.out.size
          generalize l[j] = r at *
          clear hc hJ
          have hz := hr.2.2.2.2.open.2.1
          obtain ⟨q0, q1, q2, q3, q4, ka, cap, q5, hks⟩ := hr.cells
          obtain ⟨w6, hw6⟩ : ∃ w6, w6 = wr.alloc (.cells #[.string r.name, .int .i64 r.pat.kind, .string r.pat.text, .int .i64 r.pat.n, .string r.pat.name, .slice ka r.pat.kids.length cap] 39) := ⟨_, rfl⟩
          have RB : Hid (RuB wr.heap.size r ka cap w6) := by rw [hw6]; exact heap_alloc_new wr _
          have KA : Hid (Kept Nix wr w6) := by rw [hw6]; exact (Kept.refl _ _).alloc _
          have V6 := Lib.hid (HV2.out.keep KA.out)
          have HE : Hid (Calls Try.prog 26 #[.agg #[.int .i64 r.pat.kind, .string r.pat.text, .int .i64 r.pat.n, .string r.pat.name, .slice ka r.pat.kids.length cap], .slice a2 L2.length c2] w6 (BoolQ (emptyF (mL L2) r.pat) w6)) :=
            null_any (· < w.heap.size) L2 (by omega) _ r.pat _ _ w6 (Nat.le_refl _) ⟨ka, cap, rfl, hz, hks.to KA.out S0.out (fun _ h => h)⟩ (S0.out.mono KA.out.size) HKO.out V6.out
          have HW6 := Lib.hid hw6
          clear hw6 hks hr hz
          go_upto_region 11 with fail
          rw [← HW6.out]
          clear HW6 q0 q1 q2 q3 q4 q5
          have K6 := Lib.hid (KJ.out.trans KA.out)
          obtain ⟨x0, x1, x2, x3, x4, x5⟩ := RB.out.cells
          clear KJ HV2 HKO
          cases he : emptyF (mL L2) r.pat with
          | false =>
            have hnx := Lib.hid (HNEXT.out fun h => (by rw [he] at h; cases h))
            rw [he] at HE
            clear he HPUT HNEXT
            go_wp2_with (go_at_call 26; (refine HE.out.mono ?_); rintro e w8 ⟨rfl, k8_⟩; have K8 := Lib.hid k8_; clear k8_)
            go_roundw
            case rel => exact ⟨L2, b2, j + 1, rfl, by go_num, by omega, V6.out.keep K8.out, hnx, K6.out.trans K8.out⟩
            case measure => simp [intOf]; omega
          | true =>
            have hnx := Lib.hid (HPUT.out he)
            rw [he] at HE
            clear he HPUT HNEXT
            cases b2 with
            | true =>
              go_wp2_with (first
                | (go_at_call 26; (refine HE.out.mono ?_); rintro e w8 ⟨rfl, k8_⟩; have K8 := Lib.hid k8_; have V8 := Lib.hid (V6.out.keep k8_); have R8 := RB.out.kept k8_ (fun h => h); obtain ⟨y0, y1, y2, y3, y4, y5⟩ := R8.cells; clear k8_)
                | (go_at_call 19; (refine (put8_any L2 r.name _ 0 w8 (Nat.zero_le _) V8.out.zero (by omega)).mono ?_); rintro e w9 ⟨v9, rfl, hV9, k9_⟩; have V9 := Lib.hid hV9; have K9 := Lib.hid k9_; clear hV9 k9_))
              go_roundw
              case rel => exact ⟨putL L2 r.name, true, j + 1, rfl, by go_num, by omega, V9.out.low, hnx, (K6.out.trans K8.out).trans K9.out⟩
              case measure => simp [intOf]; omega
            | false =>
              go_wp2_with (first
                | (go_at_call 26; (refine HE.out.mono ?_); rintro e w8 ⟨rfl, k8_⟩; have K8 := Lib.hid k8_; have V8 := Lib.hid (V6.out.keep k8_); have R8 := RB.out.kept k8_ (fun h => h); obtain ⟨y0, y1, y2, y3, y4, y5⟩ := R8.cells; clear k8_)
                | (go_at_call 19; (refine (put8_any L2 r.name _ 0 w8 (Nat.zero_le _) V8.out.zero (by omega)).mono ?_); rintro e w9 ⟨v9, rfl, hV9, k9_⟩; have V9 := Lib.hid hV9; have K9 := Lib.hid k9_; clear hV9 k9_))
              go_roundw
              case rel => exact ⟨putL L2 r.name, _, j + 1, rfl, by go_num, by omega, V9.out.low, hnx, (K6.out.trans K8.out).trans K9.out⟩
              case measure => simp [intOf]; omega
    | false =>
      have HNULL := Lib.hid (null_is hP.out.under (hC.out rfl))
      clear hC hf hP
      obtain ⟨w3, hw3⟩ : ∃ x, x = wr := ⟨_, rfl⟩
      rw [← hw3] at HV KR ⊢
      clear hw3
      obtain ⟨O, hO⟩ : ∃ x, x = w3.heap.size := ⟨_, rfl⟩
      have HO := Lib.hid hO
      have HVO : Hid (PutV w3 (fun b => b < O) (.slice a L.length c) L) := by rw [hO]; exact HV.out
      have hOw : Hid (w.heap.size ≤ O) := by rw [hO]; exact KR.out.size
      clear hO HV
      have hmax : Hid (l.length ≤ maxLen) := by unfold Hid maxLen; omega
      go_upto_region 18 with (refine wpList_make_full _ rfl (.tmp 51) (.tmp 51) 57 rfl w3.heap.size 58 i1 (.slice none 0 0) 1 Try.underlying57 hi1 hy0 hy1 .i64 .i64 _ _ l.length rfl rfl rfl rfl (by rw [hy2]; omega) hmax.out (Nat.le_refl _) ?_; intro w4 hO4 hg4; have MT4 : Hid (Mat w4 w3.heap.size l.length (fun _ => 0) 0 (fillT (mL L) l 0 0)) := Mat.made hO4; have K34 : Hid (Kept (fun b => O ≤ b) w3 w4) := (Kept.refl _ w3).grown hg4 (fun k hk => by cases hk); clear hO4 hg4)
      rw [← HO.out] at MT4 ⊢
      have KO : Hid (∀ wy, Kept (fun b => O ≤ b) w3 wy → Kept Nix w wy) := fun wy hk => KR.out.step hk (fun y hy => .inr (Nat.le_trans hOw.out hy))
      have HVK : Hid (∀ wy, Kept (fun b => O ≤ b) w3 wy → PutV wy (fun b => b < O) (.slice a L.length c) L ∧ O ≤ wy.heap.size) := fun wy hk => ⟨HVO.out.owned (by rw [HO.out]; omega) hk, by rw [HO.out]; exact hk.size⟩
      clear HVO KR
      go_loopw [55] (fun i wr => ∃ (j : Nat) (rb : Nat → Nat), i = .int .i64 j ∧ j ≤ l.length ∧ Hid (Mat wr O l.length rb j (fillT (mL L) l j 0)) ∧ Kept (fun b => O ≤ b) w3 wr) (fun i _ => l.length - (intOf i).toNat)
      case atStart => exact ⟨0, _, rfl, Nat.zero_le _, MT4, K34.out⟩
      case round =>
        clear MT4 K34
        obtain ⟨i, rb, rfl, hi, hM, hk5⟩ := hrel
        have K5 := Lib.hid hk5
        clear hk5
        by_cases hlt : i < l.length
        · go_upto_region 22 with (refine wpList_make_full _ rfl (.tmp 60) (.tmp 60) 58 rfl wr.heap.size 4 i0 (.bool false) 1 Try.underlying58 hi0 hz0 hz1 .i64 .i64 _ _ l.length rfl rfl rfl rfl (by rw [hz2]; omega) hmax.out (Nat.le_refl _) ?_; intro w5 hO5 hg5; have k5 : Kept Nix wr w5 := (Kept.refl _ wr).grown hg5 (fun k hk => by cases hk); have M5 := hM.out.kept k5 (fun _ _ _ h => h); have y1 := M5.cellN (Nat.le_refl i) hlt; have y2 := M5.freeO i; have MR := Lib.hid (hM.out.addRow hlt k5 hO5 (Nat.le_refl _) (fillT_none _ _ _)); have K6 : Hid (Kept (fun b => O ≤ b) w3 (w5.setCell ⟨O, i, none⟩ (.slice (some ⟨wr.heap.size, 0, none⟩) l.length l.length))) := ((K5.out.trans (k5.more (fun _ h => h.elim))).setCell (p := ⟨O, i, none⟩) (.inl (Nat.le_refl _)) _); clear hO5 hg5 k5 M5)
          obtain ⟨w6, hw6⟩ : ∃ x, x = w5.setCell ⟨O, i, none⟩ (.slice (some ⟨wr.heap.size, 0, none⟩) l.length l.length) := ⟨_, rfl⟩
          rw [← hw6] at MR K6 ⊢
          obtain ⟨rb2, hrb2⟩ : ∃ f, f = (fun a => if a = i then wr.heap.size else rb a) := ⟨_, rfl⟩
          rw [← hrb2] at MR
          clear hw6 hrb2 y1 y2 hM
          go_loopw [65] (fun jv wr => ∃ j : Nat, jv = .int .i64 j ∧ j ≤ l.length ∧ Hid (Mat wr O l.length rb2 (i + 1) (fillT (mL L) l i j)) ∧ Kept (fun b => O ≤ b) w3 wr) (fun jv _ => l.length - (intOf jv).toNat)
          case atStart => exact ⟨0, rfl, Nat.zero_le _, MR, K6.out⟩
          case round =>
            clear MR K6
            obtain ⟨j, rfl, hj, hM, hk7⟩ := hrel
            have K7 := Lib.hid hk7
            clear hk7
            by_cases hlt2 : j < l.length
            · obtain ⟨b, o, rfl, hc⟩ := (HA.out wr (KO.out wr K7.out)) (by omega)
              have hri := Lib.hid (hc i hlt); have hrj := Lib.hid (hc j hlt2)
              have HBB := Lib.hid (begB_in (mL L) l i j hlt hlt2)
              have HKO := kidsOk_of (HW.out _ (List.getElem_mem hlt))
              have S0 : Hid (Safe (· < w.heap.size) Nix wr.heap.size) := Safe.lt (KO.out wr K7.out).size
              generalize l[i] = ri at *
              generalize l[j] = rj at *
              have KD : Kept Nix wr wr.drew := (Kept.refl _ _).drew
              have hz := hri.out.2.2.2.2.open.2.1
              obtain ⟨q0, q1, q2, q3, q4, ka, cap, q5, hks⟩ := hri.out.cells
              obtain ⟨p0, -, -, -, -, -, -, -, -⟩ := hrj.out.cells
              have x1 := hM.out.cellO (Nat.lt_succ_self i)
              have x2 := hM.out.cell (Nat.lt_succ_self i) hlt2
              have x3 := hM.out.free (Nat.lt_succ_self i) j
              have HB := Lib.hid (begins_doc (· < w.heap.size) L (by omega) rj.name (sizeT ri.pat) ri.pat _ _ wr.drew (Nat.le_refl _) ⟨ka, cap, rfl, hz, hks.to KD S0.out (fun _ h => h)⟩ S0.out HKO (((HVK.out wr K7.out).1.kept KD (fun b hb => ⟨Nat.lt_of_lt_of_le hb (HVK.out wr K7.out).2, fun h => h⟩)).wide (fun b hb => Nat.lt_of_lt_of_le hb (HVK.out wr K7.out).2)))
              clear hc hz hks HKO KD
              go_upto_region 24 with fail
              go_region_with (go_at_call 27; (refine HB.out.mono ?_); rintro e w8 ⟨rfl, k8_⟩; have k8 : Kept Nix wr w8 := ((Kept.refl _ wr).drew).trans k8_; have M8 := Lib.hid (hM.out.kept k8 (fun _ _ _ h => h)); have hri8 := hri.out.to k8 S0.out (fun _ h => h); have hrj8 := hrj.out.to k8 S0.out (fun _ h => h); obtain ⟨u0, u1, u2, u3, u4, ka8, cap8, u5, -⟩ := hri8.cells; obtain ⟨v0, -, -, -, -, -, -, -, -⟩ := hrj8.cells; have y1 := M8.out.cellO (Nat.lt_succ_self i); have y2 := M8.out.cell (Nat.lt_succ_self i) hlt2; have y3 := M8.out.free (Nat.lt_succ_self i) j; have M9 := Lib.hid (M8.out.set (Nat.lt_succ_self i) hlt2 (begM (mL L) rj.name ri.pat)); have K9 : Hid (Kept (fun b => O ≤ b) w3 (w8.setCell ⟨rb2 i, j, none⟩ (.bool (begM (mL L) rj.name ri.pat)))) := (K7.out.trans (k8.more (fun _ h => h.elim))).setCell (p := ⟨rb2 i, j, none⟩) (.inl (Nat.le_of_lt (hM.out.above i (Nat.lt_succ_self i)))) _; clear k8_ k8 hri8 hrj8)
              all_goals
                have M10 : Hid (Mat (w8.setCell ⟨rb2 i, j, none⟩ (.bool (begM (mL L) rj.name ri.pat))) O l.length rb2 (i + 1) (fillT (mL L) l i (j + 1))) := by unfold Hid; rw [fillT_set, HBB.out]; exact M9.out
                go_wp2_with fail
                go_roundw
                case rel => exact ⟨j + 1, by go_num, by omega, M10, K9.out⟩
                case measure => simp [intOf]; omega
            · obtain rfl : j = l.length := by omega
              have M10 : Hid (Mat wr O l.length rb2 (i + 1) (fillT (mL L) l (i + 1) 0)) := by unfold Hid; rw [← fillT_row]; exact hM.out
              go_wp2_with fail
              go_roundw
              case rel => exact ⟨i + 1, rb2, by go_num, by omega, M10, K7.out⟩
              case measure => simp [intOf]; omega
        · obtain rfl : i = l.length := by omega
          have HWAR := Lib.hid (fillT_full (mL L) l)
          have HFIN : Hid (∀ T, War (BegI (nullM l) l) l.length l.length T → ∀ i (hi : i < l.length), T i i = true ↔ Pth (BegE (nullM l) l) l[i].name l[i].name) := fun T h i hi => diag_iff HND.out h i hi
          rw [HNULL.out] at HWAR hM
          generalize fillT (nullM l) l l.length 0 = T0 at HWAR hM
          generalize BegI (nullM l) l = E at HWAR HFIN
          clear HW HND HNULL HVK
          go_upto_region 28 with fail
          go_loopw [90] (fun kv wr => ∃ (k : Nat) (T : Nat → Nat → Bool), kv = .int .i64 k ∧ k ≤ l.length ∧ Hid (Mat wr O l.length rb l.length T) ∧ Hid (War E l.length k T) ∧ Kept (fun b => O ≤ b) w3 wr) (fun kv _ => l.length - (intOf kv).toNat)
          case atStart => exact ⟨0, T0, rfl, Nat.zero_le _, hM, HWAR, K5.out⟩
          case round =>
            clear hM HWAR K5
            obtain ⟨k, T, rfl, hk, hM, hWar, hk6⟩ := hrel
            have K6 := Lib.hid hk6
            clear hk6
            by_cases hltk : k < l.length
            · go_upto_region 31 with fail
              go_loopw [95] (fun iv wr => ∃ (i : Nat) (T2 : Nat → Nat → Bool), iv = .int .i64 i ∧ i ≤ l.length ∧ Hid (Mat wr O l.length rb l.length T2) ∧ Hid (WarIn E l.length k T T2 i 0) ∧ Kept (fun b => O ≤ b) w3 wr) (fun iv _ => l.length - (intOf iv).toNat)
              case atStart => exact ⟨0, T, rfl, Nat.zero_le _, hM, hWar.out.inside, K6.out⟩
              case round =>
                clear hM K6
                obtain ⟨i, T2, rfl, hi2, hM, hWI, hk7⟩ := hrel
                have K7 := Lib.hid hk7
                clear hk7
                by_cases hlti : i < l.length
                · go_upto_region 34 with fail
                  go_loopw [100] (fun jv wr => ∃ (j : Nat) (T3 : Nat → Nat → Bool), jv = .int .i64 j ∧ j ≤ l.length ∧ Hid (Mat wr O l.length rb l.length T3) ∧ Hid (WarIn E l.length k T T3 i j) ∧ Kept (fun b => O ≤ b) w3 wr) (fun jv _ => l.length - (intOf jv).toNat)
                  case atStart => exact ⟨0, T2, rfl, Nat.zero_le _, hM, hWI, K7.out⟩
                  case round =>
                    clear hM hWI K7
                    obtain ⟨j, T3, rfl, hj, hM, hWI, hk8⟩ := hrel
                    have K8 := Lib.hid hk8
                    clear hk8
                    by_cases hltj : j < l.length
                    · have xi := hM.out.cellO hlti
                      have xk := hM.out.cellO hltk
                      have xij := hM.out.cell hlti hltj
                      have xik := hM.out.cell hlti hltk
                      have xkj := hM.out.cell hltk hltj
                      have xf := hM.out.free hlti j
                      have KS : Hid (∀ v : Bool, Kept (fun b => O ≤ b) w3 ((wr.drew).setCell ⟨rb i, j, none⟩ (.bool v))) := fun v => K8.out.drew.setCell (p := ⟨rb i, j, none⟩) (.inl (Nat.le_of_lt (hM.out.above i hlti))) _
                      have MS : Hid (∀ v : Bool, Mat ((wr.drew).setCell ⟨rb i, j, none⟩ (.bool v)) O l.length rb l.length (setT T3 i j v)) := fun v => (hM.out.kept ((Kept.refl Nix wr).drew) (fun _ _ _ h => h)).set hlti hltj v
                      have step := hWI.out.step
                      go_upto_region 36 with fail
                      cases h1 : T3 i j <;> cases h2 : T3 i k <;> cases h3 : T3 k j <;> rw [h1, h2, h3] at step <;> rw [h1] at xij <;> rw [h2] at xik <;> rw [h3] at xkj
                      all_goals
                        have STEP := Lib.hid step
                        clear step h1 h2 h3 hWI hM
                        go_region
                      all_goals
                        go_wp2_with fail
                        go_roundw
                        case rel => exact ⟨j + 1, _, by go_num, by omega, MS.out _, STEP, KS.out _⟩
                        case measure => simp [intOf]; omega
                    · obtain rfl : j = l.length := by omega
                      have HR := Lib.hid hWI.out.row
                      go_wp2_with fail
                      go_roundw
                      case rel => exact ⟨i + 1, T3, by go_num, by omega, hM, HR, K8.out⟩
                      case measure => simp [intOf]; omega
                · obtain rfl : i = l.length := by omega
                  have HE := Lib.hid (WarIn.end_ hWar.out hltk hWI.out)
                  go_wp2_with fail
                  go_roundw
                  case rel => exact ⟨k + 1, T2, by go_num, by omega, hM, HE, K7.out⟩
                  case measure => simp [intOf]; omega
            · obtain rfl : k = l.length := by omega
              have HD := Lib.hid (HFIN.out T hWar.out)
              clear HFIN hWar
              go_upto_region 42 with fail
              go_loopw [18, 139] (fun ov iv wr => ∃ (i : Nat) (out : List ByteArray), iv = .int .i64 i ∧ i ≤ l.length ∧ PutV wr (fun b => b < wr.heap.size) ov out ∧ Hid (OutR (BegE (nullM l) l) l i out) ∧ Hid (Mat wr O l.length rb l.length T) ∧ Kept (fun b => O ≤ b) w3 wr) (fun _ iv _ => l.length - (intOf iv).toNat)
              case atStart => exact ⟨0, [], rfl, Nat.zero_le _, .inl ⟨rfl, rfl⟩, OutR.start _ _, hM, K6.out⟩
              case round =>
                clear hM K6
                obtain ⟨i, out, rfl, hi2, hV, hQ, hM, hk7⟩ := hrel
                have K7 := Lib.hid hk7; have HV := Lib.hid hV
                obtain ⟨oa, oc, rfl⟩ := hV.shape
                have hol := hQ.out.len
                clear hk7 hV
                by_cases hlti : i < l.length
                · obtain ⟨b, o, rfl, hc⟩ := (HA.out wr (KO.out wr K7.out)) (by omega)
                  obtain ⟨q0, -, -, -, -, -, -, -, -⟩ := (hc i hlti).cells
                  have x1 := hM.out.cellO hlti
                  have x2 := hM.out.cell hlti hlti
                  have hdi := HD.out i hlti
                  cases hT : T i i with
                  | true =>
                    rw [hT] at x2 hdi
                    have hQ2 := Lib.hid (hQ.out.yes hlti (hdi.1 rfl))
                    generalize l[i] = r at *
                    clear hc hdi hT hQ
                    go_wp2_with (go_at_call 19; (refine (put8_any out r.name _ 0 wr (Nat.zero_le _) HV.out.zero (by omega)).mono ?_); rintro e w9 ⟨v9, rfl, hV9, k9_⟩; have V9 := Lib.hid hV9; have K9 := Lib.hid k9_; clear hV9 k9_)
                    go_roundw
                    case rel => exact ⟨i + 1, putL out r.name, by go_num, by omega, V9.out.low, hQ2, hM.out.kept K9.out (fun _ _ _ h => h), K7.out.trans (K9.out.more (fun _ h => h.elim))⟩
                    case measure => simp [intOf]; omega
                  | false =>
                    rw [hT] at x2 hdi
                    have hQ2 := Lib.hid (hQ.out.no hlti (fun h => by have := hdi.2 h; cases this))
                    clear hc hdi hT hQ
                    go_wp2_with fail
                    go_roundw
                    case rel => exact ⟨i + 1, out, by go_num, by omega, HV.out, hQ2, hM, K7.out⟩
                    case measure => simp [intOf]; omega
                · obtain rfl : i = l.length := by omega
                  have KZ := Lib.hid (KO.out wr K7.out)
                  go_wp2_with fail
                  go_ret2
                  refine ⟨KZ.out, out, .slice oa out.length oc, by rw [HR0.out]; rfl, HV.out.strs, by omega, fun h => absurd HR0.out h, fun _ => ⟨hQ.out.rise, fun x => ?_⟩⟩
                  rw [hQ.out.mem, List.take_length]
                  exact ⟨fun ⟨r, hr, e, hx⟩ => ⟨r, hr, e, hx⟩, fun ⟨r, hr, e, hx⟩ => ⟨r, hr, e, hx⟩⟩
end Go.Proofs.Ytdkpdomggbiolaa
