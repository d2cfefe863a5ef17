/- check.Reached: its walk. -/
import Derived.Test.YtkhhinmhgjicgaaCm2
import Derived.Deep.LoopGhost
namespace Go.Proofs.Ytkhhinmhgjicgaa
set_option linter.all false
open Go.RowKit Go.Maps Go.WideMaps

def RqI (l : List StT) (B : Nat) (w3 : World) (f : Nat) (v : Value) (wr : World) : Prop :=
  ∃ (xs : List Int) (o : Nat → Bool) (a : Option Addr) (c : Nat), v = .slice a xs.length c ∧ Win wr (B + 1) 3 1 v xs.length (xs.map intV) ∧ BRow wr B l.length o ∧ Hid (Todo l o xs) ∧ Hid (f = freshN o l.length * maxGo + xs.length) ∧ f ≤ 1 + l.length * maxGo ∧ Kept (fun b => B ≤ b) w3 wr
set_option maxRecDepth 100000 in
set_option maxHeartbeats 8000000 in
theorem reached_any (l : List StT) (al : Option Addr) (cl : Nat) (S : Nat → Prop) (w : World) (hl : StsAt w S al l) (hS : Safe S Nix w.heap.size) (hlen : l.length ≤ 1048576) :
    Calls Try.prog 9 #[.slice al l.length cl] w (ReachQ l w) := by
  obtain ⟨w1, hw1⟩ : ∃ w1, w1 = w.alloc (.cells #[.int .i64 0, .int .i64 0] 25) := ⟨_, rfl⟩
  have k1 : Kept Nix w w1 := by rw [hw1]; exact (Kept.refl Nix w).alloc _
  have hz1 : w1.heap.size = w.heap.size + 1 := by rw [hw1]; simp
  have F1 : Hid (Fl w.heap.size 0 0 w1) := by rw [hw1]; exact heap_alloc_new w _
  have HP := Lib.hid (program_any l al cl S w1 (hl.to k1 hS (fun _ h => h)) (hS.mono k1.size) hlen)
  have HW1 := Lib.hid hw1; have K1 := Lib.hid k1; have HL := Lib.hid hl; have S0 := Lib.hid hS; have HZ1 := Lib.hid hz1
  clear hl hS k1 hw1 hz1
  by_cases hc : (checkF l).1 = 0
  rotate_left
  · have e1 : ((checkF l).1 != 0) = true := by simpa using hc
    have HC := Lib.hid hc
    clear hc
    go_enter Try.func9, Try.ntmps9
    go_upto_region 1 with fail
    rw [← HW1.out]
    go_wp2_with (go_at_call 12; (refine HP.out.mono ?_); rintro e w2 ⟨p, rfl, k2_, _, _⟩; have K2 := Lib.hid k2_; have F2 := Lib.hid ((F1.out.kept k2_ (fun h => h)).kept ((Kept.refl Nix w2).alloc (.cells #[.int .i64 (checkF l).1, .int .i64 ((checkF l).2 : Int)] 25)) (fun h => h)); clear k2_; obtain ⟨f0, f1, f2, f3⟩ := F2.out.cells)
    go_region
    go_wp2_with fail
    exact ret_reach rfl rfl rfl (F2.out.set _ _) (((K1.out.trans K2.out).alloc _).step (((Kept.refl (· = w.heap.size) _).drew.setCell (p := ⟨w.heap.size, 0, none⟩) (.inl rfl) _).setCell (p := ⟨w.heap.size, 1, none⟩) (.inl rfl) _) (fun y hy => .inr (by subst hy; exact Nat.le_refl _))) (fun _ => ⟨rfl, rfl, rfl, rfl, rfl⟩) (fun h => absurd h HC.out)
  have e1 : ((checkF l).1 != 0) = false := by simpa using hc
  have HC := Lib.hid hc
  clear hc
  have hlen' : Hid (l.length ≤ 1000) := by have := (check_right HC.out).1; unfold Hid; omega
  obtain ⟨i0, hi0, hz0, hz1, hz2⟩ := info_parts infoBool
  obtain ⟨j0, hj0, hy0, hy1, hy2⟩ := info_parts infoInt
  go_enter Try.func9, Try.ntmps9
  go_upto_region 1 with fail
  rw [← HW1.out]
  go_upto_region 4 with (go_at_call 12; (refine HP.out.mono ?_); rintro e w2 ⟨p, rfl, k2_, ht_, _⟩; have K2 := Lib.hid k2_; have TQ := Lib.hid ht_; clear k2_ ht_)
  obtain ⟨T, B1, B2, n1, n2, rfl, hT, hM1, hM2, hT1, hb1, hb2⟩ := TQ.out HC.out
  obtain ⟨w3, hw3⟩ : ∃ w3, w3 = w2.alloc (.cells #[.int .i64 (checkF l).1, .int .i64 ((checkF l).2 : Int)] 25) := ⟨_, rfl⟩
  have k3 : Kept Nix w2 w3 := by rw [hw3]; exact (Kept.refl _ _).alloc _
  have T3 := Lib.hid (hT.kept k3 (fun h => h)); have M13 := Lib.hid (hM1.kept k3 (fun h => h)); have M23 := Lib.hid (hM2.kept k3 (fun h => h))
  have K3 : Hid (Kept Nix w w3) := (K1.out.trans K2.out).trans k3
  have F3 : Hid (Fl w.heap.size 0 0 w3) := (F1.out.kept K2.out (fun h => h)).kept k3 (fun h => h)
  have G3 : Hid (Fl w2.heap.size (checkF l).1 ((checkF l).2 : Int) w3) := by rw [hw3]; exact heap_alloc_new w2 _
  have L3 := Lib.hid (HL.out.to K3.out S0.out (fun _ h => h)); have S3 := Lib.hid (S0.out.mono K3.out.size)
  have HW3 := Lib.hid hw3
  have HB3 : Hid (T < w3.heap.size ∧ B1 < w3.heap.size ∧ B2 < w3.heap.size ∧ w.heap.size < w3.heap.size ∧ w2.heap.size < w3.heap.size ∧ w.heap.size < w2.heap.size) := by
    refine ⟨T3.out.lt, M13.out.lt, M23.out.lt, ?_, ?_, ?_⟩
    · have := F3.out.lt; omega
    · rw [hw3]; simp
    · have := (F1.out.kept K2.out (fun h => h)).lt; omega
  clear hT hM1 hM2 hT1 hb1 hb2 k3 hw3 TQ HL HW1
  rw [← HW3.out]
  obtain ⟨B, hBd⟩ : ∃ B, B = w3.heap.size := ⟨_, rfl⟩
  have HBD := Lib.hid hBd
  have HB4 : Hid (T < B ∧ B1 < B ∧ B2 < B ∧ w.heap.size < B ∧ w2.heap.size < B ∧ w.heap.size < w2.heap.size) := by rw [hBd]; exact HB3.out
  clear hBd HB3
  go_upto_region 5 with (refine wpList_make_full _ rfl (.tmp 25) (.tmp 25) 28 rfl w3.heap.size 4 i0 (.bool false) 1 Try.underlying28 hi0 hz0 hz1 .i64 .i64 _ _ l.length rfl rfl rfl rfl (by have := hlen'.out; rw [hz2]; omega) (by have := hlen'.out; unfold maxLen; omega) (Nat.le_refl _) ?_; intro w4 hO4 hg4; have BR4 := Lib.hid (BRow.ofOwns hO4); have K34 : Hid (Kept Nix w3 w4) := (Kept.refl Nix w3).grown hg4 (fun k hk => by cases hk); clear hO4 hg4)
  rw [← HBD.out] at BR4 ⊢
  have K45 : Hid (Kept Nix w4 (w4.alloc (.cells #[.int .i64 0] 3))) := (Kept.refl Nix w4).alloc _
  obtain ⟨w5, hw5⟩ : ∃ w5, w5 = w4.alloc (.cells #[.int .i64 0] 3) := ⟨_, rfl⟩
  have W5 : Hid (Win w5 (B + 1) 3 1 (.slice (some ⟨w4.heap.size, 0, none⟩) 1 1) 1 [.int .i64 0]) := ⟨rfl, .inr ⟨w4.heap.size, 0, 1, _, rfl, by have := BR4.out.lt; omega, by rw [hw5]; exact heap_alloc_new w4 _, Nat.le_refl _, by decide, by simp, by simp⟩⟩
  rw [← hw5] at K45
  have BR5 := Lib.hid (BR4.out.kept K45.out (fun h => h))
  have K35 := Lib.hid (K34.out.trans K45.out)
  have HW5 := Lib.hid hw5
  clear hw5
  go_upto_region 6 with fail
  rw [← HW5.out]
  clear HW5
  go_loopg [7] (l.length * maxGo + 1) (RqI l B w3)
  case atStart => exact ⟨[0], fun _ => false, _, 1, rfl, W5.out, BR5.out, Todo.start l, by unfold Hid; rw [freshN_none]; rfl, by omega, K35.out.more (fun _ h => h.elim)⟩
  case round =>
    obtain ⟨xs, o, a, c, rfl, hW, hB, hTd, hf, hfb, hK⟩ := hrel
    have HW := Lib.hid hW; have HB := Lib.hid hB; have HK := Lib.hid hK
    obtain ⟨hx1, hx2, hx3, hx4, hx5, hx6⟩ := HB4.out
    have FR := Lib.hid (F3.out.kept hK (by omega)); have GR := Lib.hid (G3.out.kept hK (by omega))
    clear hW hB hK
    cases xs with
    | nil =>
      have fin := Lib.hid hTd.out.done
      obtain ⟨f0, f1, f2, f3⟩ := FR.out.cells
      obtain ⟨g0, g1, g2, g3⟩ := GR.out.cells
      have KF : Hid (∀ u v, Kept (· = w.heap.size) wr (((wr.drew).setCell ⟨w.heap.size, 0, none⟩ u).setCell ⟨w.heap.size, 1, none⟩ v)) := fun u v => ((Kept.refl (· = w.heap.size) wr).drew.setCell (p := ⟨w.heap.size, 0, none⟩) (.inl rfl) _).setCell (p := ⟨w.heap.size, 1, none⟩) (.inl rfl) _
      have KZ : Hid (Kept Nix w wr) := K3.out.step HK.out (fun y hy => .inr (by have : B ≤ y := hy; omega))
      clear hTd hf HW
      go_wp2_with fail
      go_region
      go_wp2_with fail
      refine ret_reach rfl rfl rfl (FR.out.set _ _) (KZ.out.step (KF.out _ _) (fun y hy => .inr (by subst hy; exact Nat.le_refl _))) (fun h => absurd HC.out h) (fun h => ⟨h, ?_, B, o, rfl, rfl, rfl, HB.out.kept (KF.out _ _) (by omega), fin.out, by omega⟩)
      rw [check_zero h]; rfl
    | cons k r =>
      obtain ⟨kn, rfl⟩ := Int.eq_ofNat_of_zero_le (hTd.out.nat k (by simp))
      rw [List.map_cons, List.length_cons] at HW
      obtain ⟨g, og, c', hv, hgB, hgl, hcm, hcn, q0, hW1⟩ := HW.out.head
      simp only [Value.slice.injEq, true_and] at hv
      obtain ⟨rfl, rfl⟩ := hv
      have q0' : wr.cell? ⟨g, og, none⟩ = some (.int .i64 kn) := q0
      have HW1 := Lib.hid hW1
      clear hW1 q0
      rw [List.length_cons] at *
      by_cases hskip : l.length ≤ kn ∨ o kn = true
      · have step := Lib.hid (hTd.out.skip hskip)
        obtain ⟨A1, hA1, HW2⟩ : ∃ A1, (if c = 1 then some ⟨g, og, none⟩ else some ⟨g, og + 1, none⟩ : Option Addr) = A1 ∧ Hid (Win wr (B + 1) 3 1 (.slice A1 r.length (c - 1)) r.length (r.map intV)) := ⟨_, rfl, HW1.out⟩
        have fin : Hid (RqI l B w3 (freshN o l.length * maxGo + r.length) (.slice A1 r.length (c - 1)) wr) := ⟨r, o, _, _, rfl, HW2.out, HB.out, step, rfl, by have := hf.out; omega, HK.out⟩
        clear hTd
        by_cases hge : l.length ≤ kn
        · have d1 : decide ((l.length : Int) ≤ (kn : Int)) = true := decide_eq_true (by omega)
          have d2 : decide (l.length ≤ kn) = true := decide_eq_true hge
          clear hskip hge
          go_wp2_with fail
          go_roundg (freshN o l.length * maxGo + r.length)
          case measure => have := hf.out; omega
          case rel => exact fin.out
        · have d1 : decide ((l.length : Int) ≤ (kn : Int)) = false := decide_eq_false (by omega)
          have d2 : decide (l.length ≤ kn) = false := decide_eq_false hge
          have hob : o kn = true := hskip.resolve_left hge
          have hkl : kn < l.length := by omega
          have x1 := HB.out.cell hkl
          rw [hob] at x1
          clear hskip hge
          go_wp2_with fail
          go_roundg (freshN o l.length * maxGo + r.length)
          case measure => have := hf.out; omega
          case rel => exact fin.out
      · have hkl : kn < l.length := by omega
        have hob : o kn = false := by cases h : o kn with
          | false => rfl
          | true => exact absurd (.inr h) hskip
        have d1 : decide ((l.length : Int) ≤ (kn : Int)) = false := decide_eq_false (by omega)
        have d2 : decide (l.length ≤ kn) = false := decide_eq_false (by omega)
        have x1 := HB.out.cell hkl
        have x2 := HB.out.free kn
        rw [hob] at x1
        have step := Lib.hid (hTd.out.visit hkl)
        have hfr := Lib.hid (freshN_set o kn hob l.length hkl)
        clear hTd hskip
        go_upto_region 11 with fail
        obtain ⟨wv, hwv⟩ : ∃ wv, wv = wr.setCell ⟨B, kn, none⟩ (.bool true) := ⟨_, rfl⟩
        have kv : Kept (· = B) wr wv := by rw [hwv]; exact (Kept.refl (· = B) wr).setCell (p := ⟨B, kn, none⟩) (.inl rfl) _
        have BV : Hid (BRow wv B l.length (setO o kn)) := by rw [hwv]; exact HB.out.set hkl
        have WV : Hid (Win wv (B + 1) 3 1 (.slice (some ⟨g, og, none⟩) (r.length + 1) c) (r.length + 1) (((kn : Int) :: r).map intV)) := HW.out.kept kv (fun k hk h => by have := (HW.out.lt k hk).1; omega)
        have KV : Hid (Kept (fun b => B ≤ b) w3 wv) := HK.out.trans (kv.more (fun b hb => by have : b = B := hb; show B ≤ b; omega))
        have HWV := Lib.hid hwv
        rw [← hwv]
        clear hwv kv x1 x2 HW HB HK HW1 q0' FR GR
        have SX3 : Hid (Safe S (fun b => B ≤ b) w3.heap.size) := fun b hb => ⟨(S3.out b hb).1, fun h => by have h1 := (S3.out b hb).1; have h2 : B ≤ b := h; have h3 := HBD.out; omega⟩
        have LV := Lib.hid (L3.out.to KV.out SX3.out (fun _ h => h)); have SV := Lib.hid (S3.out.mono KV.out.size)
        have TV := Lib.hid (T3.out.kept KV.out (by omega)); have MV1 := Lib.hid (M13.out.kept KV.out (by omega)); have MV2 := Lib.hid (M23.out.kept KV.out (by omega))
        have HN := Lib.hid (next_any T B1 B2 n1 (labM l) l al cl kn S wv LV.out SV.out TV.out MV1.out hkl hlen)
        obtain ⟨s, hsd⟩ : ∃ s, s = l[kn] := ⟨_, rfl⟩
        rw [← hsd] at HN step
        have HSD := Lib.hid hsd
        clear hsd
        have hgo : Hid (goP l kn s = sortI (nextL (labM l) l.length kn s) ++ (namesS s).map (callT l)) := rfl
        have hnl := nextL_len (labM l) l.length kn s
        have HML := Lib.hid (sortI_len (nextL (labM l) l.length kn s))
        go_upto_region 12 with (go_at_call 16; (refine HN.out.mono ?_); rintro e w6 ⟨nv, lb, rfl, o6_, k6_⟩; have O6 := Lib.hid o6_; have K6 := Lib.hid k6_; clear o6_ k6_)
        generalize sortI (nextL (labM l) l.length kn s) = nx at *
        have hvs : ∃ va vc, nv = .slice va nx.length vc := by
          rcases O6.out.shape with ⟨rfl, rfl⟩ | ⟨g, c, rfl, _⟩
          · exact ⟨_, _, rfl⟩
          · exact ⟨_, _, rfl⟩
        obtain ⟨va, vc, rfl⟩ := hvs
        have hfr2 := Lib.hid hfb
        go_upto_region 13 with (have hml := HML.out; at_builtin; go_loud (refine wpList_append_ints rfl (.tmp 56) (.tmp 57) rfl (B + 1) _ (r.length + 1) _ rfl (WV.out.kept K6.out (fun _ _ h => h)) _ nx.length (nx.map intV) rfl (ints_src O6.out) (by have := hf.out; have := hlen'.out; simp only [maxGo] at hfb; omega) (by have := KV.out.size; have := K6.out.size; have := BV.out.lt; omega) ?_); intro a7 c7 w7 hW7 hg7 ho7; have K67 : Hid (Kept (fun b => B + 1 ≤ b) w6 w7) := (Kept.refl _ w6).grown hg7 (fun k hk => .inl (WV.out.lt k hk).1); have W7 := Lib.hid hW7; clear hW7 hg7 ho7 hml)
        have KV7 : Hid (Kept (fun b => B + 1 ≤ b) wv w7) := (K6.out.more (fun _ h => h.elim)).trans K67.out
        have BV7 := Lib.hid (BV.out.kept KV7.out (by omega))
        have K37 : Hid (Kept (fun b => B ≤ b) w3 w7) := KV.out.trans (KV7.out.more (fun b (hb : B + 1 ≤ b) => (show B ≤ b by omega)))
        obtain ⟨b, ol, rfl, hc⟩ := (L3.out.to K37.out SX3.out (fun _ h => h)) (by omega)
        obtain ⟨sa, hSb, hz, hcc, ho⟩ := hc kn hkl
        rw [← HSD.out] at hz hcc ho
        have x3 : w7.cell? ⟨b, ol + kn * 24 + 1, none⟩ = some (.int .i64 s.kind) := hcc 1 (by decide)
        have HZ := Lib.hid hz
        clear hc hcc ho hz
        go_upto_region 14 with (go_at_call 17; (refine (parts_any s.kind b (ol + kn * 24) w7 x3).mono ?_); rintro e w8 ⟨pa, rfl, hpr, k8_⟩; rw [parts_len s]; have PR := Lib.hid hpr; have K8 := Lib.hid k8_; clear hpr k8_)
        have K38 := Lib.hid (K37.out.quiet K8.out)
        have W8 := Lib.hid (W7.out.kept K8.out (fun _ _ h => h))
        have hown8 : Hid (∀ k, (Value.slice a7 (r.length + 1 + nx.length) c7).ownBlock = some k → B + 1 ≤ k ∧ k < w7.heap.size) := fun k hk => W7.out.lt k hk
        have BV8 := Lib.hid (BV7.out.kept K8.out (fun h => h))
        obtain ⟨xs0, hxs0⟩ : ∃ xs0 : List Int, xs0 = (kn : Int) :: r ++ nx := ⟨_, rfl⟩
        have hxl : xs0.length = r.length + 1 + nx.length := by rw [hxs0]; simp; omega
        have hI8 : Hid (StepI (B + 1) w8.heap.size (.slice a7 xs0.length c7) w8 xs0 (.slice a7 xs0.length c7) w8) := by
          refine StepI.start ?_
          have h_ := W8.out
          rw [← List.map_append, ← hxs0, ← hxl] at h_
          exact h_
        rw [← hxl] at hown8 ⊢
        have HXS := Lib.hid hxs0
        have hfull : Hid (xs0.length + (namesL (exprsS s)).length ≤ 3000000000) := by
          have h1 := namesS_len s HZ.out
          have h2 := hf.out; have h3 := hlen'.out
          have h4 : namesS s = namesL (exprsS s) := rfl
          rw [h4] at h1
          simp only [maxGo] at hfb
          have hml := HML.out
          unfold Hid; omega
        have K38s : Hid (w3.heap.size ≤ w7.heap.size) := K37.out.size
        have KX8 : Hid (∀ (v : Value) (N : Nat) (wy : World), (∀ k, v.ownBlock = some k → B + 1 ≤ k) → B + 1 ≤ N → Kept (XV v N) w8 wy → Kept (fun b => B + 1 ≤ b) w8 wy) := fun v N wy h1 h2 hk => hk.more fun b hb => hb.elim (h1 b) (fun h => Nat.le_trans h2 h)
        have hB8 : Hid (B + 1 ≤ w8.heap.size) := by have := BV8.out.lt; unfold Hid; omega
        clear hxs0 hxl W8 W7 BV BV7 KV7 K67 x3 hnl
        have hel2 : (exprsS s).length ≤ 2 := by unfold exprsS; split; exact (by decide : 1 ≤ 2); split; exact (by decide : 2 ≤ 2); exact (by decide : 0 ≤ 2)
        generalize hvz : Value.slice a7 xs0.length c7 = vz at *
        have HVZ := Lib.hid hvz
        go_loopw [7, 64] (fun v i wq => ∃ (j : Nat) (dn : List ByteArray) (X2 : List Int), j ≤ (exprsS s).length ∧ i = .int .i64 j ∧ Hid (namesL (exprsS s) = dn ++ namesL ((exprsS s).drop j)) ∧ Hid (X2 = xs0 ++ dn.map (callT l)) ∧ StepI (B + 1) w8.heap.size vz w8 X2 v wq) (fun _ i _ => (exprsS s).length - (intOf i).toNat)
        case atStart => exact ⟨0, [], xs0, Nat.zero_le _, rfl, by unfold Hid; rw [List.drop_zero]; rfl, by unfold Hid; simp, hI8.out⟩
        case round =>
          obtain ⟨j, dn, X2, hj, rfl, hno, HX2, hI⟩ := hrel
          have HI := Lib.hid hI
          obtain ⟨a9, c9, rfl, hW9, ho9, hk9⟩ := hI
          have W9 := Lib.hid hW9; have O9 := Lib.hid ho9; have K9 := Lib.hid hk9
          have KB9 := Lib.hid (KX8.out _ _ _ (fun k hk => (hown8.out k hk).1) hB8.out hk9)
          have K39 : Hid (Kept (fun b => B ≤ b) w3 wr) := K38.out.trans (KB9.out.more (fun b (hb : B + 1 ≤ b) => (show B ≤ b by omega)))
          clear hW9 ho9 hk9
          by_cases hlt : j < (exprsS s).length
          · obtain ⟨pg, rfl, hpB, hplt, hpc⟩ := PR.out (by rw [parts_len]; omega)
            have hkp : j < (partsO s.kind).length := by rw [parts_len]; exact hlt
            have x4 : wr.cell? ⟨pg, j, none⟩ = some (.pointer (some ⟨b, ol + kn * 24 + (partsO s.kind)[j], none⟩)) := (K9.out.cell hplt (fun h => by rcases h with h | h; (have := (hown8.out pg h).2; omega); omega)).trans (hpc j hkp)
            obtain ⟨b', o', he, hc⟩ := (L3.out.to K39.out SX3.out (fun _ h => h)) (by omega)
            simp only [Option.some.injEq, Addr.mk.injEq, and_true] at he
            obtain ⟨rfl, rfl⟩ := he
            obtain ⟨sa2, hSb2, hz2, hcc2, ho2⟩ := hc kn hkl
            rw [← HSD.out] at hz2 hcc2 ho2
            have PA : Hid (PatAt wr S b (ol + kn * 24 + (partsO s.kind)[j]) (exprsS s)[j]) := parts_in hcc2 hz2 ho2 hSb2 j hlt
            have step2 : Hid (namesL (exprsS s) = (dn ++ namesT (exprsS s)[j]) ++ namesL ((exprsS s).drop (j + 1))) := by unfold Hid; rw [hno.out, namesL_drop _ _ hlt, List.append_assoc]
            have S9 : Hid (Safe S (fun b => wr.heap.size ≤ b) wr.heap.size) := fun b hb => by
              have h1 := (S3.out b hb).1; have h2 := K39.out.size
              exact ⟨by omega, fun h => by have h3 : wr.heap.size ≤ b := h; omega⟩
            have L9 := Lib.hid (L3.out.to K39.out SX3.out (fun _ h => h))
            have hnsz := Lib.hid (names_size _ _ _ PA.out)
            generalize (partsO s.kind)[j] = po at *
            generalize hxk : (exprsS s)[j] = xk at *
            clear hxk hc hcc2 ho2 hz2 hpc hno
            have hnml : (namesT xk).length ≤ 3000000000 := by have := hfull.out; rw [step2.out] at this; simp at this; omega
            go_wp2_with (go_at_call 18; (refine (names_any wr.heap.size S _ xk b _ [] (.slice none 0 0) wr (Nat.le_refl _) PA.out S9.out (Nat.le_refl _) ⟨none, 0, rfl, Win.nil ..⟩ (by simpa using (show (namesT xk).length ≤ 4000000000 by omega))).mono ?_); rintro e w10 ⟨v10, rfl, hCh, k10_⟩; rw [List.nil_append] at hCh; obtain ⟨na, nc, rfl, hncap, hstr⟩ := hCh.strs2; have ST := Lib.hid hstr; have K10 := Lib.hid k10_; clear hCh hstr k10_)
            have KN10 : Hid (Kept Nix wr w10) := (Kept.refl Nix wr).step K10.out (fun y hy => .inr hy)
            have K310 : Hid (Kept (fun b => B ≤ b) w3 w10) := K39.out.quiet KN10.out
            have W10 := Lib.hid (W9.out.kept KN10.out (fun _ _ h => h))
            have own9 : Hid (∀ k, (Value.slice a9 X2.length c9).ownBlock = some k → B + 1 ≤ k ∧ k < wr.heap.size) := fun k hk => W9.out.lt k hk
            have hB10 : Hid (B + 1 ≤ w10.heap.size) := by have h1 := KN10.out.size; have h2 := KB9.out.size; have h3 := hB8.out; unfold Hid; omega
            have KX10 : Hid (∀ (v : Value) (N : Nat) (wy : World), (∀ k, v.ownBlock = some k → B + 1 ≤ k) → B + 1 ≤ N → Kept (XV v N) w10 wy → Kept (fun b => B + 1 ≤ b) w10 wy) := fun v N wy h1 h2 hk => hk.more fun b hb => hb.elim (h1 b) (fun h => Nat.le_trans h2 h)
            have hI10 := Lib.hid (StepI.start (Np := w10.heap.size) W10.out)
            have h89 : Hid (w8.heap.size ≤ w10.heap.size) := Nat.le_trans K9.out.size KN10.out.size
            generalize hnl2 : namesT xk = NL at *
            have hlX : Hid (X2.length + NL.length ≤ 3000000000) := by have := hfull.out; rw [step2.out] at this; unfold Hid; rw [HX2.out]; simp at this ⊢; omega
            clear hnl2 x4 W10
            generalize hv9 : Value.slice a9 X2.length c9 = v9 at *
            go_loopw [7, 71] (fun v i wq => ∃ (k : Nat) (X3 : List Int), k ≤ NL.length ∧ i = .int .i64 k ∧ Hid (X3 = X2 ++ (NL.take k).map (callT l)) ∧ StepI (B + 1) w10.heap.size v9 w10 X3 v wq) (fun _ i _ => NL.length - (intOf i).toNat)
            case atStart => exact ⟨0, X2, Nat.zero_le _, rfl, by unfold Hid; simp, hI10.out⟩
            case round =>
              obtain ⟨k, X3, hk, rfl, HX3, hI2⟩ := hrel
              have HI2 := Lib.hid hI2
              obtain ⟨a11, c11, rfl, hW11, ho11, hk11⟩ := hI2
              have W11 := Lib.hid hW11; have K11 := Lib.hid hk11
              have KB11 := Lib.hid (KX10.out _ _ _ (fun k hk => (own9.out k hk).1) hB10.out hk11)
              have K311 : Hid (Kept (fun b => B ≤ b) w3 wr) := K310.out.trans (KB11.out.more (fun b (hb : B + 1 ≤ b) => (show B ≤ b by omega)))
              clear hW11 ho11 hk11
              by_cases hlt2 : k < NL.length
              · obtain ⟨gb, go_, he, ⟨hgn1, hgn2⟩, hcs⟩ := ST.out (by omega)
                obtain rfl := he
                have x5 : wr.cell? ⟨gb, go_ + k, none⟩ = some (.string NL[k]) := (K11.out.cell hgn2 (fun h => by rcases h with h | h; (have := (own9.out gb h).2; omega); omega)).trans (hcs k hlt2)
                have hns : NL[k].size ≤ maxLen := by have := hnsz.out NL[k] (List.getElem_mem hlt2); unfold maxLen; omega
                have hstep3 : Hid (X3 ++ [callT l NL[k]] = X2 ++ (NL.take (k + 1)).map (callT l)) := by unfold Hid; rw [HX3.out, List.take_succ_eq_append_getElem hlt2, List.map_append, List.append_assoc]; rfl
                have hl3 : X3.length + 1 ≤ 4000000000 := by have := hlX.out; rw [HX3.out]; simp; omega
                obtain ⟨d, hd, hdl⟩ : ∃ d : Nat, (funM l NL[k]).getD 0 = (d : Int) ∧ d < l.length := by
                  rcases funM_range l NL[k] with h | ⟨d, h, hd⟩
                  · exact ⟨0, by rw [h]; rfl, by omega⟩
                  · exact ⟨d, by rw [h]; rfl, hd⟩
                obtain ⟨b', o', he, hc⟩ := (L3.out.to K311.out SX3.out (fun _ h => h)) (by omega)
                simp only [Option.some.injEq, Addr.mk.injEq, and_true] at he
                obtain ⟨rfl, rfl⟩ := he
                obtain ⟨sa3, hSb3, hz3, hcc3, ho3⟩ := hc d hdl
                have x6 : wr.cell? ⟨b, ol + d * 24 + 18, none⟩ = some (.string l[d].entry) := hcc3 18 (by decide)
                have hes : l[d].entry.size ≤ maxLen := by have := hz3.entry; unfold maxLen; omega
                have hct : callT l NL[k] = (labM l l[d].entry).getD 0 := by unfold callT entryAt; rw [hd, Int.toNat_natCast, List.getElem?_eq_getElem hdl]
                have T11 := Lib.hid (T3.out.kept K311.out (by omega)); have M11 := Lib.hid (M13.out.kept K311.out (by omega)); have N11 := Lib.hid (M23.out.kept K311.out (by omega))
                obtain ⟨y0, y1⟩ := T11.out.cells
                have hlook2 : (Instr.lookup 58 (.map (some B2)) (.string NL[k]) false).run Try.prog wr.drew = .ok (.int .i64 (d : Int)) wr.drew := by rw [← hd]; exact (N11.out.kept (Kept.refl Nix wr).drew (fun h => h)).look NL[k] hns
                have hlook1 : (Instr.lookup 58 (.map (some B1)) (.string l[d].entry) false).run Try.prog wr.drew = .ok (.int .i64 (callT l NL[k])) wr.drew := by rw [hct]; exact (M11.out.kept (Kept.refl Nix wr).drew (fun h => h)).look l[d].entry hes
                have HLT2 := Lib.hid hlt2
                generalize callT l NL[k] = ct at *
                generalize NL[k] = nm at *
                generalize l[d].entry = en at *
                have hX3z : B + 1 ≤ wr.heap.size := by have h1 := KB11.out.size; have h2 := hB10.out; omega
                clear hc hcc3 ho3 hz3 hd hct HX3 hcs hns hes
                go_wp2_with fail
                go_region_law (first
                  | (refine step_append_ints rfl (.tmp 75) (.tmp 91) rfl (B + 1) (.slice a11 X3.length c11) X3.length (X3.map intV) (by simp [Act.eval]; done) (Win.alloc W11.out _) _ 1 [.int .i64 ct] (by simp [Act.eval]; done) (int_src (heap_alloc_new _ _)) hl3 (by simp; omega) ?_; intro a12 c12 w12 hW12 hg12 ho12; have HI12 := Lib.hid (HI2.out.app (x := ct) (by have := K11.out.size; omega) ((Kept.refl Nix wr).drew.alloc _) hW12 hg12 ho12); clear hW12 hg12 ho12))
                all_goals
                  go_wp2_with fail
                  go_roundw
                  case rel => exact ⟨k + 1, _, by have := HLT2.out; omega, by go_num, hstep3, by have h_ := HI12.out; exact h_⟩
                  case measure => have := HLT2.out; simp [intOf]; omega
              · obtain rfl : k = NL.length := by omega
                have hX3 : Hid (X3 = xs0 ++ (dn ++ NL).map (callT l)) := by unfold Hid; rw [HX3.out, HX2.out, List.take_length, List.map_append, List.append_assoc]
                have HI13 := Lib.hid (HI.out.trans KN10.out h89.out HI2.out)
                go_wp2_with fail
                go_roundw
                case rel => exact ⟨j + 1, dn ++ NL, X3, by omega, by go_num, step2, hX3, HI13.out⟩
                case measure => simp [intOf]; omega
          · obtain rfl : j = (exprsS s).length := by omega
            have hX2 : Hid (X2 = (kn : Int) :: (r ++ goP l kn s)) := by
              unfold Hid
              rw [HX2.out, HXS.out, hgo.out, show namesS s = namesL (exprsS s) from rfl, hno.out, List.drop_length, namesL, List.append_nil]
              simp
            obtain ⟨R2, hR2⟩ : ∃ R2, R2 = r ++ goP l kn s := ⟨_, rfl⟩
            rw [← hR2] at hX2 step
            have HR2 := Lib.hid hR2
            clear hR2
            have W9' : Hid (Win wr (B + 1) 3 1 (.slice a9 (R2.length + 1) c9) (R2.length + 1) (intV kn :: R2.map intV)) := by have h_ := W9.out; rw [hX2.out] at h_; exact h_
            obtain ⟨g9, og9, c9', hv9, hgB9, hgl9, hcm9, hcn9, q9, hW9t⟩ := W9'.out.head
            simp only [Value.slice.injEq, true_and] at hv9
            obtain ⟨rfl, rfl⟩ := hv9
            obtain ⟨A1, hA1, HW9t⟩ : ∃ A1, (if c9 = 1 then some ⟨g9, og9, none⟩ else some ⟨g9, og9 + 1, none⟩ : Option Addr) = A1 ∧ Hid (Win wr (B + 1) 3 1 (.slice A1 R2.length (c9 - 1)) R2.length (R2.map intV)) := ⟨_, rfl, hW9t⟩
            have hlenX : X2.length = R2.length + 1 := by rw [hX2.out]; rfl
            have hfin : Hid (freshN (setO o kn) l.length * maxGo + R2.length < gk) := by
              have h1 := goP_len l kn s HZ.out; have h2 := hf.out; have h3 := hfr.out
              have h4 : R2.length = r.length + (goP l kn s).length := by rw [HR2.out]; simp
              unfold maxGo at h2 ⊢; unfold Hid; rw [← h3] at h2; omega
            have BVr := Lib.hid (BV8.out.kept KB9.out (by omega))
            have fin : Hid (RqI l B w3 (freshN (setO o kn) l.length * maxGo + R2.length) (.slice A1 R2.length (c9 - 1)) wr) := ⟨R2, setO o kn, _, _, rfl, HW9t.out, BVr.out, step, rfl, by have := hfin.out; omega, K39.out⟩
            have hcX : c9 ≤ maxLen := hcm9
            clear hW9t q9 hno HX2 hX2 HI W9 O9
            rw [hlenX]
            go_wp2_with fail
            go_roundg (freshN (setO o kn) l.length * maxGo + R2.length)
            case measure => exact hfin.out
            case rel => exact fin.out
end Go.Proofs.Ytkhhinmhgjicgaa
