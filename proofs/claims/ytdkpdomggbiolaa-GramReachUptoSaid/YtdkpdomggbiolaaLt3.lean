/- gram.Left: its walk. -/
import Derived.Test.YtdkpdomggbiolaaLt2
import Derived.Test.YtdkpdomggbiolaaGlRow
namespace Go.Proofs.Ytdkpdomggbiolaa
set_option linter.all false
open Go.RowKit

theorem left_bad {l : List RuleT} {w w' : World} (h : rulesF l ≠ 0) (k : Kept Nix w w') : LeftQ l w (.returned (.tuple #[.slice none 0 0, .int .i64 (rulesF l)])) w' :=
  ⟨k, [], _, rfl, strs_none _ _, by simp, fun _ => rfl, fun h0 => absurd h0 h⟩

set_option maxRecDepth 100000 in
set_option maxHeartbeats 8000000 in
theorem left_any : LeftAll 7 := by
  intro l al cl w hl hlen hcl
  have HA : Hid (∀ wy, Kept Nix w wy → RulesAt wy (· < w.heap.size) al l) := fun wy hk => hl.to hk (Safe.lt (Nat.le_refl _)) (fun _ h => h)
  have HL1 := Lib.hid hl
  clear hl
  by_cases hr0 : rulesF l = 0
  rotate_left
  · have z1 : (rulesF l != 0) = true := by simpa using hr0
    have HR0 := Lib.hid hr0
    clear hr0
    go_enter Try.func7, Try.ntmps7
    go_wp2_with (go_at_call 10; (refine (rules_any l al cl w HL1.out hlen hcl).mono ?_); rintro e w1 ⟨rfl, k1_⟩; have K1 := Lib.hid k1_; clear k1_)
    go_ret2
    exact left_bad HR0.out K1.out
  have HR0 := Lib.hid hr0
  have hrr := rules_right hr0
  have h64 : l.length ≤ 64 := hrr.1
  have HW : Hid (∀ r ∈ l, wrongF r.pat = 0) := fun r hr => (hrr.2.1 r hr).2
  have HN16 : Hid (∀ r ∈ l, r.name.size ≤ maxLen) := fun r hr => by have := named16 (hrr.2.1 r hr).1; unfold maxLen; omega
  have HND : Hid ((l.map RuleT.name).Nodup) := hrr.2.2
  clear hr0 hrr
  have hmm := @run_makeMap Try.prog
  obtain ⟨i0, hi0, hz0, hz1, hz2⟩ := info_parts Try.infoS
  have HND2 := Lib.hid HND.out
  go_enter Try.func7, Try.ntmps7
  go_upto_region 4 with (go_at_call 10; (refine (rules_any l al cl w HL1.out hlen hcl).mono ?_); rintro e w1 ⟨rfl, k1_⟩; rw [HR0.out]; have K1 := Lib.hid k1_; clear k1_)
  obtain ⟨w2, hw2⟩ : ∃ w2, w2 = w1.alloc (.map #[] 0) := ⟨_, rfl⟩
  have M2 : Hid (MapF w2 w1.heap.size 0 (fun _ => none)) := by rw [hw2]; exact MapF.made w1
  have K2 : Hid (Kept Nix w w2) := by rw [hw2]; exact K1.out.alloc _
  have HW2 := Lib.hid hw2
  clear hw2
  go_upto_region 5 with fail
  rw [← HW2.out]
  clear HW2
  obtain ⟨MB, hMB⟩ : ∃ x, x = w1.heap.size := ⟨_, rfl⟩
  rw [← hMB] at M2 ⊢
  have HMB : Hid (w.heap.size ≤ MB) := by rw [hMB]; exact K1.out.size
  clear hMB K1
  go_upto_region 6 with fail
  go_loopg [6] (2 * cntM l (mB fun _ => none) + 1) (fun f bv wr => ∃ (b : Bool) (mF : ByteArray → Option Int) (n : Nat), bv = .bool b ∧ Hid (MapF wr MB n mF) ∧ Hid (NulP l mF n) ∧ Hid (b = false → ClosedM l (mB mF)) ∧ Hid (f = 2 * cntM l (mB mF) + (if b = true then 1 else 0)) ∧ Kept Nix w wr)
  case atStart => exact ⟨true, _, 0, rfl, M2, NulP.none l, fun h => (by cases h), rfl, K2.out⟩
  case round =>
    clear M2 K2
    obtain ⟨b, mF, n, rfl, hM, hP, hC, hf, hk⟩ := hrel
    have KR := Lib.hid hk
    clear hk
    cases b with
    | true =>
      clear hC
      go_upto_region 9 with fail
      obtain ⟨w7, hw7⟩ : ∃ x, x = wr := ⟨_, rfl⟩
      rw [← hw7] at hM KR ⊢
      clear hw7
      go_loopw [6, 28] (fun bv i wr => ∃ (b2 : Bool) (j : Nat) (mG : ByteArray → Option Int) (n2 : Nat), bv = .bool b2 ∧ i = .int .i64 j ∧ j ≤ l.length ∧ Hid (MapF wr MB n2 mG) ∧ Hid (NulJ l mF j b2 mG n2) ∧ Kept Nix w wr) (fun _ i _ => l.length - (intOf i).toNat)
      case atStart => exact ⟨false, 0, mF, n, rfl, rfl, Nat.zero_le _, hM, NulJ.start hP.out, KR.out⟩
      case round =>
        clear hM KR
        obtain ⟨b2, j, mG, n2, rfl, rfl, hj, hM2, hJ, hk2⟩ := hrel
        have KJ := Lib.hid hk2
        clear hk2
        by_cases hlt : j < l.length
        rotate_left
        · obtain rfl : j = l.length := by omega
          cases b2 with
          | true =>
            have hmeas : Hid (2 * cntM l (mB mG) + 1 < gk) := by have h1 := hf.out; have h2 := hJ.out.le; simp at h1 h2; unfold Hid; omega
            have hg2 := Lib.hid hJ.out.nul
            clear hJ hf
            go_wp2_with fail
            go_roundg (2 * cntM l (mB mG) + 1)
            case measure => exact hmeas.out
            case rel => exact ⟨true, mG, n2, rfl, hM2, hg2, fun h => (by cases h), rfl, KJ.out⟩
          | false =>
            have hmeas : Hid (2 * cntM l (mB mG) < gk) := by have h1 := hf.out; have h2 := hJ.out.le; simp at h1 h2; unfold Hid; omega
            have hg2 := Lib.hid hJ.out.nul
            have hg3 := Lib.hid hJ.out.closed.2
            clear hJ hf
            go_wp2_with fail
            go_roundg (2 * cntM l (mB mG))
            case measure => exact hmeas.out
            case rel => exact ⟨false, mG, n2, rfl, hM2, hg2, fun _ => hg3.out, rfl, KJ.out⟩
        · obtain ⟨b, o, rfl, hc⟩ := (HA.out wr KJ.out) (by omega)
          have hr := hc j hlt
          have HPUT : Hid (mB mG l[j].name = false → emptyF (mB mG) l[j].pat = true → NulJ l mF (j + 1) true (putM mG l[j].name 1) (n2 + 1)) := fun a b => hJ.out.put hlt a b
          have HNEXT : Hid ((emptyF (mB mG) l[j].pat = true → mB mG l[j].name = true) → NulJ l mF (j + 1) b2 mG n2) := fun a => hJ.out.next hlt a
          have hnl : l[j].name.size ≤ maxLen := HN16.out _ (List.getElem_mem hlt)
          have HKO := Lib.hid (kidsOk_of (HW.out _ (List.getElem_mem hlt)))
          have hzz := hJ.out.nul.zero l[j].name
          have hn2 : n2 < maxLen := by have := hJ.out.nul.cnt; unfold maxLen; omega
          have S0 : Hid (Safe (· < w.heap.size) Nix wr.heap.size) := Safe.lt KJ.out.size
          generalize l[j] = r at *
          clear hc hJ
          obtain ⟨q0, q1, q2, q3, q4, ka, cap, q5, hks⟩ := hr.cells
          obtain ⟨w6, hw6⟩ : ∃ w6, w6 = wr.alloc (.cells #[.string r.name, .int .i64 r.pat.kind, .string r.pat.text, .int .i64 r.pat.n, .string r.pat.name, .slice ka r.pat.kids.length cap] 39) := ⟨_, rfl⟩
          have RB : Hid (RuB wr.heap.size r ka cap w6) := by rw [hw6]; exact heap_alloc_new wr _
          have KA : Hid (Kept Nix wr w6) := by rw [hw6]; exact (Kept.refl _ _).alloc _
          have HP6 := Lib.hid (ru_pat hr hks S0.out RB.out KA.out)
          have S6 := Lib.hid (ru_safe (X := Nix) S0.out (fun _ _ h => h) KA.out RB.out)
          have HW6 := Lib.hid hw6
          clear hw6 hks hr
          go_upto_region 11 with fail
          rw [← HW6.out]
          clear HW6 q0 q1 q2 q3 q4 q5
          have M6 := Lib.hid (hM2.out.kept KA.out (fun h => h))
          have K6 := Lib.hid (KJ.out.trans KA.out)
          have HE := Lib.hid (empty_any mG MB n2 _ r.pat (Nat.le_refl _) HKO.out _ _ _ w6 HP6.out S6.out M6.out)
          have lk := M6.out.look r.name hnl
          obtain ⟨x0, x1, x2, x3, x4, x5⟩ := RB.out.cells
          clear KJ hM2 HKO HP6 S6
          generalize (mG r.name).getD 0 = c at lk hzz
          cases hm : mB mG r.name with
          | true =>
            have z1 : (c == 0) = false := by rw [hzz, hm]; rfl
            have hnx := Lib.hid (HNEXT.out fun _ => hm)
            clear hzz hm HPUT HNEXT
            go_wp2_with fail
            go_roundw
            case rel => exact ⟨b2, j + 1, mG, n2, rfl, by go_num, by omega, M6, hnx, K6.out⟩
            case measure => simp [intOf]; omega
          | false =>
            have z1 : (c == 0) = true := by rw [hzz, hm]; rfl
            cases he : emptyF (mB mG) r.pat with
            | false =>
              have hnx := Lib.hid (HNEXT.out fun h => (by rw [he] at h; cases h))
              rw [he] at HE
              clear hzz hm he HPUT HNEXT
              go_wp2_with (go_at_call 21; (refine HE.out.mono ?_); rintro e w8 ⟨rfl, k8_⟩; have K8 := Lib.hid k8_; clear k8_)
              go_roundw
              case rel => exact ⟨b2, j + 1, mG, n2, rfl, by go_num, by omega, M6.out.kept K8.out (fun h => h), hnx, K6.out.trans K8.out⟩
              case measure => simp [intOf]; omega
            | true =>
              have hnx := Lib.hid (HPUT.out hm he)
              rw [he] at HE
              clear hzz hm he HPUT HNEXT
              go_wp2_with (first
                | (go_at_call 21; (refine HE.out.mono ?_); rintro e w8 ⟨rfl, k8_⟩; have K8 := Lib.hid k8_; have R8 := RB.out.kept k8_ (fun h => h); obtain ⟨y0, y1, y2, y3, y4, y5⟩ := R8.cells; have M8 := Lib.hid (M6.out.kept k8_ (fun h => h)); clear k8_)
                | (refine wpList_mapput rfl _ _ _ rfl rfl M8.out hn2 r.name rfl hnl 1 rfl (by decide) ?_; intro w9 hM9 hk9; have M9 := Lib.hid hM9; have K9 : Hid (Kept Nix w w9) := (K6.out.trans K8.out).step hk9 (fun y hy => .inr (by subst hy; exact HMB.out)); clear hM9 hk9))
              go_roundw
              case rel => exact ⟨true, j + 1, putM mG r.name 1, n2 + 1, rfl, by go_num, by omega, M9, hnx, K9.out⟩
              case measure => simp [intOf]; omega
    | false =>
      have hnull := null_is hP.out.under (hC.out rfl)
      have HNULL := Lib.hid hnull
      clear hnull hC hf hP
      obtain ⟨w3, hw3⟩ : ∃ w3, w3 = wr.alloc (.map #[] 0) := ⟨_, rfl⟩
      have V3 : Hid (MapV w3 wr.heap.size 0 (fun _ => none)) := by rw [hw3]; exact MapV.made wr
      have M3 : Hid (MapF w3 MB n mF) := hM.out.kept (by rw [hw3]; exact (Kept.refl Nix _).alloc _) (fun h => h)
      have K3 : Hid (Kept Nix w w3) := by rw [hw3]; exact KR.out.alloc _
      have HTB : Hid (w.heap.size ≤ wr.heap.size ∧ MB < wr.heap.size ∧ wr.heap.size < w3.heap.size) := ⟨KR.out.size, hM.out.lt, by rw [hw3]; simp⟩
      have HW3 := Lib.hid hw3
      clear hw3 hM KR
      go_upto_region 16 with fail
      rw [← HW3.out]
      clear HW3
      obtain ⟨TB, hTB⟩ : ∃ x, x = wr.heap.size := ⟨_, rfl⟩
      rw [← hTB] at V3 HTB ⊢
      clear hTB
      go_upto_region 17 with fail
      go_loopw [49] (fun i wr => ∃ (j : Nat) (mV : ByteArray → Option Value), i = .int .i64 j ∧ j ≤ l.length ∧ Hid (MapV wr TB j mV) ∧ Hid (MapF wr MB n mF) ∧ Hid (∀ x, OwnS wr (TB + 1) ((mV x).getD (.slice none 0 0)) (toL (mB mF) (l.take j) x)) ∧ Kept Nix w wr) (fun i _ => l.length - (intOf i).toNat)
      case atStart => exact ⟨0, _, rfl, Nat.zero_le _, V3, M3, fun x => by rw [List.take_zero]; exact OwnS.nil _ _, K3.out⟩
      case round =>
        clear V3 M3 K3
        obtain ⟨j, mV, rfl, hj, hV, hM, hO, hk4⟩ := hrel
        have K4 := Lib.hid hk4
        clear hk4
        by_cases hlt : j < l.length
        · obtain ⟨b, o, rfl, hc⟩ := (HA.out wr K4.out) (by omega)
          have hr := hc j hlt
          have HT := Lib.hid (toL_take (mB mF) HND.out j hlt)
          have hnl : l[j].name.size ≤ maxLen := HN16.out _ (List.getElem_mem hlt)
          have HKO := Lib.hid (kidsOk_of (HW.out _ (List.getElem_mem hlt)))
          have hsz := (wrong_nodes (HW.out _ (List.getElem_mem hlt))).2
          have S0 : Hid (Safe (· < w.heap.size) Nix wr.heap.size) := Safe.lt K4.out.size
          generalize l[j] = r at *
          clear hc
          obtain ⟨q0, q1, q2, q3, q4, ka, cap, q5, hks⟩ := hr.cells
          obtain ⟨w6, hw6⟩ : ∃ w6, w6 = wr.alloc (.cells #[.string r.name, .int .i64 r.pat.kind, .string r.pat.text, .int .i64 r.pat.n, .string r.pat.name, .slice ka r.pat.kids.length cap] 39) := ⟨_, rfl⟩
          have RB : Hid (RuB wr.heap.size r ka cap w6) := by rw [hw6]; exact heap_alloc_new wr _
          have KA : Hid (Kept Nix wr w6) := by rw [hw6]; exact (Kept.refl _ _).alloc _
          have HP6 := ru_pat hr hks S0.out RB.out KA.out
          have S6 := ru_safe (X := fun b => w6.heap.size ≤ b) S0.out (fun b h h2 => by have : w6.heap.size ≤ b := h2; omega) KA.out RB.out
          have HW6 := Lib.hid hw6
          have K6 := Lib.hid (K4.out.trans KA.out)
          have M6 := Lib.hid (hM.out.kept KA.out (fun h => h))
          have V6 := Lib.hid (hV.out.kept KA.out (fun h => h))
          have O6 : Hid (∀ x, OwnS w6 (TB + 1) ((mV x).getD (.slice none 0 0)) (toL (mB mF) (l.take j) x)) := fun x => (hO.out x).kept KA.out (fun _ _ h => h)
          have HMT : Hid (MB < w6.heap.size ∧ TB < w6.heap.size) := ⟨M6.out.lt, V6.out.lt⟩
          have KD : Kept Nix w6 w6.drew := (Kept.refl _ _).drew
          have HB := Lib.hid (begins_any mF MB n w6.heap.size HMT.out.1 _ (sizeT r.pat) r.pat wr.heap.size 1 [] (.slice none 0 0) w6.drew (Nat.le_refl _) (HP6.to KD (fun b hb => ⟨(S6 b hb).1, fun h => h⟩) (fun _ h => h)) S6 (Nat.le_refl _) HKO.out (M6.out.kept KD (fun h => h)) (OwnS.nil _ _) (by simp; omega))
          clear hw6 hks hr hM hV hO HP6 S6 KD
          go_upto_region 19 with fail
          rw [← HW6.out]
          clear HW6 q0 q1 q2 q3 q4 q5
          obtain ⟨N, hN⟩ : ∃ x, x = wr.heap.size := ⟨_, rfl⟩
          rw [← hN] at RB HB ⊢
          clear hN
          obtain ⟨x0, x1, x2, x3, x4, x5⟩ := RB.out.cells
          have hjm : j < maxLen := by unfold maxLen; omega
          go_region_with (go_at_call 22; (refine HB.out.mono ?_); rintro e w8 ⟨v8, rfl, o8_, k8_⟩; obtain ⟨a8, c8, rfl⟩ := o8_.shape; have O8 := Lib.hid o8_; have K8 : Hid (Kept (fun b => w6.heap.size ≤ b) w6 w8) := ((Kept.refl _ w6).drew).trans k8_; have R8 := RB.out.kept K8.out (fun h => by have h1 := RB.out.lt; have h2 : w6.heap.size ≤ N := h; omega); obtain ⟨y0, y1, y2, y3, y4, y5⟩ := R8.cells; obtain ⟨w9, run9, v9_, k9_⟩ := (V6.out.kept K8.out (fun h => by have h1 := HMT.out.2; have h2 : w6.heap.size ≤ TB := h; omega)).update hjm r.name hnl (.slice a8 (beginsF (mB mF) r.pat []).length c8); have V9 := Lib.hid v9_; have K9 := Lib.hid k9_; clear o8_ k8_ v9_ k9_)
          all_goals
            have M9 : Hid (MapF w9 MB n mF) := (M6.out.kept K8.out (fun h => by have h1 := HMT.out.1; have h2 : w6.heap.size ≤ MB := h; omega)).kept K9.out (fun h => by have h1 := HTB.out.2.1; have h2 : MB = TB := h; omega)
            have O9 := Lib.hid (to_put HT.out O6.out O8.out HMT.out.2 K8.out K9.out)
            have K10 : Hid (Kept Nix w w9) := (K6.out.step K8.out (fun y hy => .inr (Nat.le_trans K6.out.size hy))).step K9.out (fun y hy => .inr (by have h1 := HTB.out.1; have h2 : y = TB := hy; omega))
            go_wp2_with fail
            go_roundw
            case rel => exact ⟨j + 1, _, by go_num, by omega, V9, M9, O9, K10.out⟩
            case measure => simp [intOf]; omega
        · obtain rfl : j = l.length := by omega
          have HO : Hid (∀ x, OwnS wr (TB + 1) ((mV x).getD (.slice none 0 0)) (toL (nullM l) l x)) := by have h := hO.out; rw [List.take_length, HNULL.out] at h; exact h
          have HT := Lib.hid (toL_mem (m := nullM l) HND.out HW.out)
          have HTOK : Hid (∀ b, (toL (nullM l) l b).Nodup ∧ (toL (nullM l) l b).length ≤ 4096) := fun b => toL_ok (nullM l) b HW.out
          have HLEN : Hid (∀ a i ys, SeenP (BegE (nullM l) l) (toL (nullM l) l) a i ys → ys.length ≤ 262144) := fun a i ys h => h.len HW.out h64
          have HP16 : Hid (∀ a b, Pth (BegE (nullM l) l) a b → b.size ≤ maxLen) := fun a b h => by have := pth_named HW.out h; unfold maxLen; omega
          clear hM
          generalize hm0 : nullM l = m0 at *
          have HM0 := Lib.hid hm0
          clear hm0 hO HND HW
          obtain ⟨w4, hw4⟩ : ∃ x, x = wr := ⟨_, rfl⟩
          rw [← hw4] at HO hV K4 ⊢
          clear hw4
          have HT4 : Hid (TB < w4.heap.size) := hV.out.lt
          go_upto_region 23 with fail
          go_loopw [12, 62] (fun ov i wr => ∃ (j : Nat) (out : List ByteArray), i = .int .i64 j ∧ j ≤ l.length ∧ OwnS wr w4.heap.size ov out ∧ Hid (OutP (BegE m0 l) l j out) ∧ Kept Nix w4 wr) (fun _ i _ => l.length - (intOf i).toNat)
          case atStart => exact ⟨0, [], rfl, Nat.zero_le _, OwnS.nil _ _, OutP.start _ _, Kept.refl _ _⟩
          case round =>
            obtain ⟨j, out, rfl, hj, hOO, hQ, hk5⟩ := hrel
            have KR := Lib.hid hk5; have OO := Lib.hid hOO
            obtain ⟨oa, oc, rfl⟩ := hOO.shape
            have hol := hQ.out.len hj
            clear hk5 hOO
            by_cases hlt : j < l.length
            rotate_left
            · obtain rfl : j = l.length := by omega
              have K9 := Lib.hid (K4.out.trans KR.out)
              have HB4 : Hid (w.heap.size ≤ w4.heap.size) := K4.out.size
              go_wp2_with (go_at_call 24; (refine (sortF_any w4.heap.size _ out wr OO.out (by omega)).mono ?_); rintro e w9 ⟨rfl, ys, o9_, hp9, hs9, g9_⟩; have O9 := Lib.hid o9_; have P9 := Lib.hid hp9; have S9 := Lib.hid hs9; have K10 : Hid (Kept Nix w w9) := K9.out.grown g9_ (fun k hk => .inr (Nat.le_trans HB4.out (World.ownsRow.lt OO.out k hk).1)); have HL9 : Hid (ys.length = out.length) := hp9.length_eq; clear o9_ hp9 hs9 g9_)
              go_ret2
              refine ⟨K10.out, ys, .slice oa out.length oc, by rw [HR0.out]; rfl, O9.out.strs.wide fun b hb => hb.2, by have := HL9.out; omega, fun h => absurd HR0.out h, fun _ => ⟨sorted_rise P9.out S9.out (hQ.out.sub.nodup ?_), fun x => ?_⟩⟩
              · rw [List.take_length]; exact HND2.out
              · rw [P9.out.mem_iff, hQ.out.mem, List.take_length, HM0.out]
                exact ⟨fun ⟨r, hr, e, hx⟩ => ⟨r, hr, e, hx⟩, fun ⟨r, hr, e, hx⟩ => ⟨r, hr, e, hx⟩⟩
            obtain ⟨b, o, rfl, hc⟩ := (HA.out wr (K4.out.trans KR.out)) (by omega)
            have hr := hc j hlt
            have hnl : l[j].name.size ≤ maxLen := HN16.out _ (List.getElem_mem hlt)
            have HYES : Hid (Pth (BegE m0 l) l[j].name l[j].name → OutP (BegE m0 l) l (j + 1) (out ++ [l[j].name])) := fun h => hQ.out.yes hlt h
            have HNO : Hid (¬ Pth (BegE m0 l) l[j].name l[j].name → OutP (BegE m0 l) l (j + 1) out) := fun h => hQ.out.no hlt h
            generalize l[j] = r at *
            clear hc hQ
            obtain ⟨q0, q1, q2, q3, q4, ka, cap, q5, hks⟩ := hr.cells
            obtain ⟨w6, hw6⟩ : ∃ w6, w6 = wr.alloc (.cells #[.string r.name, .int .i64 r.pat.kind, .string r.pat.text, .int .i64 r.pat.n, .string r.pat.name, .slice ka r.pat.kids.length cap] 39) := ⟨_, rfl⟩
            have RB : Hid (RuB wr.heap.size r ka cap w6) := by rw [hw6]; exact heap_alloc_new wr _
            have KA : Hid (Kept Nix wr w6) := by rw [hw6]; exact (Kept.refl _ _).alloc _
            have HW6 := Lib.hid hw6
            have K46 := Lib.hid (KR.out.trans KA.out)
            have V6 := Lib.hid (hV.out.kept K46.out (fun h => h))
            have O6 : Hid (∀ x, OwnS w6 (TB + 1) ((mV x).getD (.slice none 0 0)) (toL m0 l x)) := fun x => (HO.out x).kept K46.out (fun _ _ h => h)
            have OO6 := Lib.hid (OO.out.kept KA.out (fun _ _ h => h))
            have lk := V6.out.look r.name hnl
            have hO6r := O6.out r.name
            obtain ⟨zs0, hzz0⟩ : ∃ z, z = toL m0 l r.name := ⟨_, rfl⟩
            have HZ0 := Lib.hid hzz0
            have hz0l : zs0.length ≤ 4096 := by rw [hzz0]; exact (HTOK.out _).2
            rw [← hzz0] at hO6r
            obtain ⟨a6, c6, e6⟩ := hO6r.shape
            rw [e6] at lk hO6r
            have CL := Lib.hid (clone_any w6 hO6r (by omega))
            clear hw6 hks hr hzz0 e6 hO6r
            go_upto_region 25 with fail
            rw [← HW6.out]
            clear HW6 q0 q1 q2 q3 q4 q5
            obtain ⟨x0, x1, x2, x3, x4, x5⟩ := RB.out.cells
            obtain ⟨N, hN⟩ : ∃ x, x = wr.heap.size := ⟨_, rfl⟩
            rw [← hN] at RB x0 x1 x2 x3 x4 x5 ⊢
            clear hN
            go_upto_region 27 with (go_at_call 23; (refine CL.out.mono ?_); rintro e w7 ⟨v7, rfl, o7_, k7_⟩; obtain ⟨a7, c7, rfl⟩ := o7_.shape; have O7 := Lib.hid o7_; have K7 := Lib.hid k7_; clear o7_ k7_)
            clear x0 x1 x2 x3 x4 x5
            obtain ⟨B5, hB5⟩ : ∃ x, x = w6.heap.size := ⟨_, rfl⟩
            have HB5 := Lib.hid hB5
            rw [← hB5] at O7
            have HN5 : Hid (N < B5 ∧ TB < B5) := by rw [hB5]; exact ⟨RB.out.lt, V6.out.lt⟩
            have HOB : Hid (∀ k, (Value.slice oa out.length oc).ownBlock = some k → k < B5) := fun k hk => by rw [hB5]; exact (World.ownsRow.lt OO6.out k hk).2
            have HZB : Hid (∀ x k, ((mV x).getD (.slice none 0 0)).ownBlock = some k → k < B5) := fun x k hk => by rw [hB5]; exact (World.ownsRow.lt (O6.out x) k hk).2
            have SP0 : Hid (SeenP (BegE m0 l) (toL m0 l) r.name 0 zs0) := by rw [HZ0.out]; exact SeenP.start HT.out (HTOK.out _).1
            clear hB5 lk CL
            go_loopw [15, 16] (fun sv i wr => ∃ (i2 : Nat) (ys : List ByteArray), i = .int .i64 i2 ∧ i2 ≤ ys.length ∧ OwnS wr B5 sv ys ∧ Hid (SeenP (BegE m0 l) (toL m0 l) r.name i2 ys) ∧ Kept (fun b => B5 ≤ b) w6 wr) (fun _ i _ => 262144 - (intOf i).toNat)
            case atStart => exact ⟨0, zs0, rfl, Nat.zero_le _, O7.out, SP0, K7.out.more (fun _ h => h.elim)⟩
            case round =>
              clear O7 K7 SP0
              obtain ⟨i2, ys, rfl, hi2, hOY, hSP, hk8⟩ := hrel
              have K8 := Lib.hid hk8
              have hyl := HLEN.out _ _ _ hSP.out
              have OO8 := Lib.hid (OO6.out.kept hk8 (fun k hk h => by have h1 := HOB.out k hk; have h2 : B5 ≤ k := h; omega))
              have V8 := Lib.hid (V6.out.kept hk8 (fun h => by have h1 := HN5.out.2; have h2 : B5 ≤ TB := h; omega))
              have O8 : Hid (∀ x, OwnS wr (TB + 1) ((mV x).getD (.slice none 0 0)) (toL m0 l x)) := fun x => (O6.out x).kept hk8 (fun k hk h => by have h1 := HZB.out x k hk; have h2 : B5 ≤ k := h; omega)
              have RB8 := Lib.hid (RB.out.kept hk8 (fun h => by have h1 := HN5.out.1; have h2 : B5 ≤ N := h; omega))
              clear hk8
              by_cases hlt2 : i2 < ys.length
              rotate_left
              · obtain rfl : i2 = ys.length := by omega
                obtain ⟨ya, yc, rfl⟩ := hOY.shape
                have HIN : Hid (r.name ∈ ys ↔ Pth (BegE m0 l) r.name r.name) := hSP.out.end_ HT.out r.name
                have OY := Lib.hid hOY
                obtain ⟨x0, x1, x2, x3, x4, x5⟩ := RB8.out.cells
                have KZ : Hid (Kept Nix w4 wr) := K46.out.step K8.out (fun y hy => .inr (by have h1 := K46.out.size; have h2 : B5 ≤ y := hy; have h3 := HB5.out; omega))
                clear hOY hSP
                by_cases hin : r.name ∈ ys
                · have hy := Lib.hid (HYES.out (HIN.out.1 hin))
                  have HD : Hid (decide (r.name ∈ ys) = true) := decide_eq_true hin
                  clear hin HYES HNO HIN
                  go_wp2_with (first
                    | (go_at_call 14; refine (hasOwn_any r.name wr OY.out (by omega)).mono ?_; rintro e w' ⟨rfl, hw_⟩; obtain rfl := hw_.symm; rw [HD.out])
                    | (at_builtin; go_loud (refine wpList_append_lies _ rfl (.tmp 101) (.tmp 104) 26 rfl w4.heap.size 9 i0 (.string ⟨#[]⟩) 1 16 Try.underlying26 hi0 hz0 hz1 hz2 rfl (by decide) _ out.length (out.map Value.string) rfl (World.ownsRow.alloc OO8.out _) ⟨wr.heap.size, 0, none⟩ 1 1 [.string r.name] rfl rfl (cell_one_new _ _ _) (by intro u hu; simp at hu; subst hu; rfl) (by decide) (by unfold maxLen; omega) (by omega) (by have := KZ.out.size; simp; omega) (wr.heap.size + 1) (by simp) ?_); intro g3 c3 w9 own9 grow9 _ _; have OWN := Lib.hid own9; have K9 : Hid (Kept Nix w4 w9) := (KZ.out.alloc _).grown grow9 (fun kk hk => .inr (World.ownsRow.lt OO8.out kk hk).1); clear own9 grow9))
                  go_roundw
                  case rel => exact ⟨j + 1, out ++ [r.name], by go_num, by omega, by unfold OwnS; simpa using OWN.out, hy, K9.out⟩
                  case measure => simp [intOf]; omega
                · have hy := Lib.hid (HNO.out (fun h => hin (HIN.out.2 h)))
                  have HD : Hid (decide (r.name ∈ ys) = false) := decide_eq_false hin
                  clear hin HYES HNO HIN
                  go_wp2_with (go_at_call 14; refine (hasOwn_any r.name wr OY.out (by omega)).mono ?_; rintro e w' ⟨rfl, hw_⟩; obtain rfl := hw_.symm; rw [HD.out])
                  go_roundw
                  case rel => exact ⟨j + 1, out, by go_num, by omega, OO8.out, hy, KZ.out⟩
                  case measure => simp [intOf]; omega
              · obtain ⟨ya, yc, rfl, hyc⟩ := hOY.strs
                obtain ⟨yb, yo, rfl, _, hyc⟩ := hyc (by omega)
                have y0 := hyc i2 hlt2
                have OY := Lib.hid hOY
                have hyn : ys[i2].size ≤ maxLen := HP16.out _ _ (hSP.out.sound _ (List.getElem_mem hlt2))
                have hpx := Lib.hid (hSP.out.sound _ (List.getElem_mem hlt2))
                have hgx : Hid (ys[i2]? = some ys[i2]) := List.getElem?_eq_getElem hlt2
                generalize ys[i2] = x at *
                have lk := V8.out.look x hyn
                have hOx := O8.out x
                have hzb := HZB.out x
                obtain ⟨zs, hz⟩ : ∃ z, z = toL m0 l x := ⟨_, rfl⟩
                have HZ := Lib.hid hz
                have hzl : zs.length ≤ 4096 := by rw [hz]; exact (HTOK.out _).2
                rw [← hz] at hOx
                obtain ⟨za, zc, e6⟩ := hOx.shape
                rw [e6] at lk hOx hzb
                have OX := Lib.hid hOx; have HZB2 := Lib.hid hzb
                clear hyc hOY hz e6 hOx hzb
                obtain ⟨w8, hw8⟩ : ∃ x, x = wr := ⟨_, rfl⟩
                rw [← hw8] at K8 OO8 V8 O8 RB8 y0 OY lk OX ⊢
                clear hw8
                go_upto_region 30 with fail
                clear y0 lk
                go_loopw [15, 84] (fun sv k wr => ∃ (kk : Nat) (ys2 : List ByteArray), k = .int .i64 kk ∧ kk ≤ zs.length ∧ OwnS wr B5 sv ys2 ∧ Hid (SeenP (BegE m0 l) (toL m0 l) r.name i2 ys2) ∧ Hid (ys2[i2]? = some x) ∧ Hid (∀ c ∈ zs.take kk, c ∈ ys2) ∧ Kept (fun b => B5 ≤ b) w8 wr) (fun _ k _ => zs.length - (intOf k).toNat)
                case atStart => exact ⟨0, ys, rfl, Nat.zero_le _, OY.out, hSP, hgx, fun c hc => (by rw [List.take_zero] at hc; cases hc), Kept.refl _ _⟩
                case round =>
                  clear OY hSP hgx
                  obtain ⟨kk, ys2, rfl, hkk, hOY, hSP, hgx, htk, hk9⟩ := hrel
                  have K9 := Lib.hid hk9
                  have hyl2 := HLEN.out _ _ _ hSP.out
                  have OX9 := Lib.hid (OX.out.kept hk9 (fun k hk h => by have h1 := HZB2.out k hk; have h2 : B5 ≤ k := h; omega))
                  have hi2l : i2 < ys2.length := (List.getElem?_eq_some_iff.1 hgx.out).1
                  obtain ⟨ya2, yc2, rfl⟩ := hOY.shape
                  have OY := Lib.hid hOY
                  clear hOY hk9
                  by_cases hlt3 : kk < zs.length
                  · obtain ⟨za, zc, hzv, hzc⟩ := OX9.out.strs
                    simp only [Value.slice.injEq, true_and] at hzv
                    obtain ⟨rfl, rfl⟩ := hzv
                    obtain ⟨zb, zo, rfl, _, hzc⟩ := hzc (by omega)
                    have y0 := hzc kk hlt3
                    have htk2 : Hid (zs.take (kk + 1) = zs.take kk ++ [zs[kk]]) := List.take_succ_eq_append_getElem hlt3
                    have hpc : Hid (Pth (BegE m0 l) r.name zs[kk]) := .more _ _ hpx.out ((HT.out _ _).1 (by rw [← HZ.out]; exact List.getElem_mem hlt3))
                    generalize zs[kk] = c at *
                    clear hzc
                    by_cases hin : c ∈ ys2
                    · have HD : Hid (decide (c ∈ ys2) = true) := decide_eq_true hin
                      have step : Hid (∀ z ∈ zs.take (kk + 1), z ∈ ys2) := by
                        rw [htk2.out]; intro z hz
                        rcases List.mem_append.1 hz with h | h
                        · exact htk.out z h
                        · rw [List.mem_singleton.1 h]; exact hin
                      clear hin
                      go_wp2_with (go_at_call 14; refine (hasOwn_any c wr OY.out (by omega)).mono ?_; rintro e w' ⟨rfl, hw_⟩; obtain rfl := hw_.symm; rw [HD.out])
                      go_roundw
                      case rel => exact ⟨kk + 1, ys2, by go_num, by omega, OY.out, hSP, hgx, step, K9.out⟩
                      case measure => simp [intOf]; omega
                    · have HD : Hid (decide (c ∈ ys2) = false) := decide_eq_false hin
                      have HS2 : Hid (SeenP (BegE m0 l) (toL m0 l) r.name i2 (ys2 ++ [c])) := hSP.out.add (by omega) hin hpc.out
                      have hgx2 : Hid ((ys2 ++ [c])[i2]? = some x) := by unfold Hid; rw [List.getElem?_append_left hi2l]; exact hgx.out
                      have step : Hid (∀ z ∈ zs.take (kk + 1), z ∈ ys2 ++ [c]) := by
                        rw [htk2.out]; intro z hz
                        rcases List.mem_append.1 hz with h | h
                        · exact List.mem_append_left _ (htk.out z h)
                        · exact List.mem_append_right _ h
                      have hB8 : Hid (B5 ≤ wr.heap.size) := by have h1 := K8.out.size; have h2 := K9.out.size; have h3 := HB5.out; unfold Hid; omega
                      clear hin hSP hgx
                      go_wp2_with (first
                        | (go_at_call 14; refine (hasOwn_any c wr OY.out (by omega)).mono ?_; rintro e w' ⟨rfl, hw_⟩; obtain rfl := hw_.symm; rw [HD.out])
                        | (at_builtin; go_loud (refine wpList_append_lies _ rfl (.tmp 92) (.tmp 94) 26 rfl B5 9 i0 (.string ⟨#[]⟩) 1 16 Try.underlying26 hi0 hz0 hz1 hz2 rfl (by decide) _ ys2.length (ys2.map Value.string) rfl (World.ownsRow.alloc OY.out _) ⟨wr.heap.size, 0, none⟩ 1 1 [.string c] rfl rfl (cell_one_new _ _ _) (by intro u hu; simp at hu; subst hu; rfl) (by decide) (by unfold maxLen; omega) (by omega) (by have := hB8.out; simp; omega) (wr.heap.size + 1) (by simp) ?_); intro g3 c3 w9 own9 grow9 _ _; have OWN := Lib.hid own9; have K10 : Hid (Kept (fun b => B5 ≤ b) w8 w9) := (K9.out.alloc _).grown grow9 (fun kk hk => .inl (World.ownsRow.lt OY.out kk hk).1); clear own9 grow9))
                      go_roundw
                      case rel => exact ⟨kk + 1, ys2 ++ [c], by go_num, by omega, by unfold OwnS; simpa using OWN.out, HS2, hgx2, step, K10.out⟩
                      case measure => simp [intOf]; omega
                  · obtain rfl : kk = zs.length := by omega
                    have HS2 : Hid (SeenP (BegE m0 l) (toL m0 l) r.name (i2 + 1) ys2) := by
                      refine hSP.out.next hi2l fun c hc => htk.out c ?_
                      rw [List.take_length, HZ.out]
                      have e := (List.getElem?_eq_some_iff.1 hgx.out).2
                      rw [← e]; exact hc
                    have KT := Lib.hid (K8.out.trans K9.out)
                    clear hSP hgx htk
                    go_wp2_with fail
                    go_roundw
                    case rel => exact ⟨i2 + 1, ys2, by go_num, by omega, OY.out, HS2, KT.out⟩
                    case measure => simp [intOf]; omega
end Go.Proofs.Ytdkpdomggbiolaa
