/- The document's Reached: its walk. -/
import Derived.Test.YtkhhinmhgjicgaaCm2
import Derived.Deep.LoopGhost
namespace Go.Proofs.Ytkhhinmhgjicgaa
set_option linter.all false
open Go.RowKit

def RrI (l : List StT) (B : Nat) (w3 : World) (f : Nat) (v : Value) (wr : World) : Prop :=
  ∃ (o : Nat → Bool) (b : Bool), v = .bool b ∧ BRow wr B l.length o ∧ Kept (fun b => B ≤ b) w3 wr ∧ Hid (∀ i, o i = true → i < l.length ∧ Rch l i) ∧ Hid (0 < l.length → o 0 = true) ∧ Hid (b = false → ∀ i, o i = true ↔ Rch l i) ∧ Hid (f = 2 * freshN o l.length + (if b = true then 1 else 0))
def o0 (l : List StT) : Nat → Bool := if 0 < l.length then setO (fun _ => false) 0 else fun _ => false
theorem o0_sound (l : List StT) : ∀ i, o0 l i = true → i < l.length ∧ Rch l i := by
  intro i h
  unfold o0 at h
  split at h
  · rename_i h0
    unfold setO at h
    split at h
    · subst i; exact ⟨h0, .zero h0⟩
    · cases h
  · cases h
theorem o0_zero (l : List StT) (h : 0 < l.length) : o0 l 0 = true := by unfold o0; rw [if_pos h]; exact if_pos rfl

set_option maxRecDepth 100000 in
set_option maxHeartbeats 8000000 in
theorem refReached_any (l : List StT) (al : Option Addr) (cl : Nat) (S : Nat → Prop) (w : World) (hl : StsAt w S al l) (hS : Safe S Nix w.heap.size) (hlen : l.length ≤ 1048576) :
    Calls Try.prog 10 #[.slice al l.length cl] w (ReachQ l w) := by
  obtain ⟨w1, hw1⟩ : ∃ w1, w1 = w.alloc (.cells #[.int .i64 0, .int .i64 0] 25) := ⟨_, rfl⟩
  have k1 : Kept Nix w w1 := by rw [hw1]; exact (Kept.refl Nix w).alloc _
  have F1 : Hid (Fl w.heap.size 0 0 w1) := by rw [hw1]; exact heap_alloc_new w _
  have HP := Lib.hid (refCheck_any l al cl S w1 (hl.to k1 hS (fun _ h => h)) (hS.mono k1.size) hlen)
  have HW1 := Lib.hid hw1; have K1 := Lib.hid k1; have HL := Lib.hid hl; have S0 := Lib.hid hS
  clear hl hS k1 hw1
  by_cases hc : (checkF l).1 = 0
  rotate_left
  · have e1 : ((checkF l).1 != 0) = true := by simpa using hc
    have HC := Lib.hid hc
    clear hc
    go_enter Try.func10, Try.ntmps10
    go_upto_region 1 with fail
    rw [← HW1.out]
    go_wp2_with (go_at_call 6; (refine HP.out.mono ?_); rintro e w2 ⟨rfl, k2_⟩; have K2 := Lib.hid k2_; have F2 := Lib.hid ((F1.out.kept k2_ (fun h => h)).kept ((Kept.refl Nix w2).alloc (.cells #[.int .i64 (checkF l).1, .int .i64 ((checkF l).2 : Int)] 25)) (fun h => h)); clear k2_; obtain ⟨f0, f1, f2, f3⟩ := F2.out.cells)
    go_region
    go_wp2_with fail
    exact ret_reach rfl rfl rfl (F2.out.set _ _) (((K1.out.trans K2.out).alloc _).step (((Kept.refl (· = w.heap.size) _).drew.setCell (p := ⟨w.heap.size, 0, none⟩) (.inl rfl) _).setCell (p := ⟨w.heap.size, 1, none⟩) (.inl rfl) _) (fun y hy => .inr (by subst hy; exact Nat.le_refl _))) (fun _ => ⟨rfl, rfl, rfl, rfl, rfl⟩) (fun h => absurd h HC.out)
  have e1 : ((checkF l).1 != 0) = false := by simpa using hc
  have HC := Lib.hid hc
  clear hc
  have hlen' : Hid (l.length ≤ 1000) := by have := (check_right HC.out).1; unfold Hid; omega
  obtain ⟨i0, hi0, hz0, hz1, hz2⟩ := info_parts infoBool
  go_enter Try.func10, Try.ntmps10
  go_upto_region 1 with fail
  rw [← HW1.out]
  go_upto_region 4 with (go_at_call 6; (refine HP.out.mono ?_); rintro e w2 ⟨rfl, k2_⟩; have K2 := Lib.hid k2_; clear k2_)
  obtain ⟨w3, hw3⟩ : ∃ w3, w3 = w2.alloc (.cells #[.int .i64 (checkF l).1, .int .i64 ((checkF l).2 : Int)] 25) := ⟨_, rfl⟩
  have k3 : Kept Nix w2 w3 := by rw [hw3]; exact (Kept.refl _ _).alloc _
  have K3 : Hid (Kept Nix w w3) := (K1.out.trans K2.out).trans k3
  have F3 : Hid (Fl w.heap.size 0 0 w3) := (F1.out.kept K2.out (fun h => h)).kept k3 (fun h => h)
  have L3 := Lib.hid (HL.out.to K3.out S0.out (fun _ h => h)); have S3 := Lib.hid (S0.out.mono K3.out.size)
  have HW3 := Lib.hid hw3
  clear k3 hw3 HL HW1
  rw [← HW3.out]
  obtain ⟨B, hBd⟩ : ∃ B, B = w3.heap.size := ⟨_, rfl⟩
  have HBD := Lib.hid hBd
  have HB4 : Hid (w.heap.size < B) := by rw [hBd]; exact F3.out.lt
  have SX3 : Hid (Safe S (fun b => B ≤ b) w3.heap.size) := fun b hb => ⟨(S3.out b hb).1, fun h => by have h1 := (S3.out b hb).1; have h2 : B ≤ b := h; omega⟩
  clear hBd
  go_upto_region 5 with (refine wpList_make_full _ rfl (.tmp 23) (.tmp 23) 28 rfl w3.heap.size 4 i0 (.bool false) 1 Try.underlying28 hi0 hz0 hz1 .i64 .i64 _ _ l.length rfl rfl rfl rfl (by have := hlen'.out; rw [hz2]; omega) (by have := hlen'.out; unfold maxLen; omega) (Nat.le_refl _) ?_; intro w4 hO4 hg4; have BR4 := Lib.hid (BRow.ofOwns hO4); have K34 : Hid (Kept Nix w3 w4) := (Kept.refl Nix w3).grown hg4 (fun k hk => by cases hk); clear hO4 hg4)
  rw [← HBD.out] at BR4 ⊢
  generalize hn : l.length = n at BR4 ⊢
  go_upto_if 27 with fail
  go_cut [27] (fun _ wx => BRow wx B n (o0 l) ∧ Kept (fun b => B ≤ b) w3 wx)
  case first =>
    by_cases hl0 : 0 < n
    · have d1 : decide ((0 : Int) < (n : Int)) = true := decide_eq_true (by omega)
      have d2 : decide (0 < n) = true := decide_eq_true hl0
      have x1 := BR4.out.cell hl0
      have x2 := BR4.out.free 0
      have fin : Hid (BRow (w4.setCell ⟨B, 0, none⟩ (.bool true)) B n (o0 l)) := by unfold Hid o0; rw [if_pos (by omega)]; exact BR4.out.set hl0
      have KF : Hid (Kept (fun b => B ≤ b) w3 (w4.setCell ⟨B, 0, none⟩ (.bool true))) := (K34.out.more (fun _ h => h.elim)).setCell (p := ⟨B, 0, none⟩) (.inl (Nat.le_refl _)) _
      go_wp2_with fail
      go_meet
      exact ⟨fin.out, KF.out⟩
    · have d1 : decide ((0 : Int) < (n : Int)) = false := decide_eq_false (by omega)
      have d2 : decide (0 < n) = false := decide_eq_false hl0
      have fin : Hid (BRow w4 B n (o0 l)) := by unfold Hid o0; rw [if_neg (by omega)]; exact BR4.out
      rw [d2]
      go_wp2_with fail
      go_meet
      exact ⟨fin.out, K34.out.more (fun _ h => h.elim)⟩
  case rest =>
    subst hn
    obtain ⟨hB5, hK5⟩ := hcut
    have B5 := Lib.hid hB5; have K5 := Lib.hid hK5
    obtain ⟨w5, hw5⟩ : ∃ x, x = wc := ⟨_, rfl⟩
    rw [← hw5] at B5 K5 ⊢
    clear hB5 hK5 BR4 K34
    go_upto_region 8 with fail
    go_loopg [6] (2 * freshN (o0 l) l.length + 1) (RrI l B w3)
    case atStart => exact ⟨o0 l, true, rfl, B5.out, K5.out, o0_sound l, o0_zero l, fun h => (by cases h), rfl⟩
    case round =>
      obtain ⟨o, b, rfl, hB, hK, hsnd, hzer, hdone, hf⟩ := hrel
      have HB := Lib.hid hB; have HK := Lib.hid hK
      have FR := Lib.hid (F3.out.kept hK (by have := HB4.out; omega))
      clear hB hK
      cases b with
      | false =>
        have fin := Lib.hid (hdone.out rfl)
        obtain ⟨f0, f1, f2, f3⟩ := FR.out.cells
        have KF : Hid (∀ u v, Kept (· = w.heap.size) wr ((wr.setCell ⟨w.heap.size, 0, none⟩ u).setCell ⟨w.heap.size, 1, none⟩ v)) := fun u v => ((Kept.refl (· = w.heap.size) wr).setCell (p := ⟨w.heap.size, 0, none⟩) (.inl rfl) _).setCell (p := ⟨w.heap.size, 1, none⟩) (.inl rfl) _
        have KZ : Hid (Kept Nix w wr) := K3.out.step HK.out (fun y hy => .inr (by have : B ≤ y := hy; have := HB4.out; omega))
        clear hdone hf hsnd hzer
        go_wp2_with fail
        exact ret_reach rfl rfl rfl (FR.out.set _ _) (KZ.out.step (KF.out _ _) (fun y hy => .inr (by subst hy; exact Nat.le_refl _))) (fun h => absurd HC.out h) (fun h => ⟨rfl, rfl, B, o, rfl, rfl, rfl, HB.out.kept (KF.out _ _) (by have := HB4.out; omega), fin.out, by have := HB4.out; omega⟩)
      | true =>
        clear hdone FR
        go_upto_region 11 with fail
        obtain ⟨wq0, hwq0⟩ : ∃ x, x = wr := ⟨_, rfl⟩
        rw [← hwq0] at HB HK ⊢
        clear hwq0
        go_loopw [6, 33] (fun v i wr => ∃ (o' : Nat → Bool) (b' : Bool) (j : Nat), v = .bool b' ∧ i = .int .i64 j ∧ j ≤ l.length ∧ BRow wr B l.length o' ∧ Hid (RdJ l o j [] b' o') ∧ Kept (fun b => B ≤ b) w3 wr) (fun _ i _ => l.length - (intOf i).toNat)
        case atStart => exact ⟨o, false, 0, rfl, rfl, Nat.zero_le _, HB.out, RdJ.start hsnd.out hzer.out, HK.out⟩
        case round =>
          obtain ⟨o', b', j, rfl, rfl, hj, hB, hJ, hK⟩ := hrel
          have HBR := Lib.hid hB; have HKR := Lib.hid hK
          by_cases hlt : j < l.length
          · obtain ⟨b, ol, rfl, hc⟩ := (L3.out.to hK SX3.out (fun _ h => h)) (by omega)
            obtain ⟨sa, hSb, hz, hcc, ho⟩ := hc j hlt
            obtain ⟨s, hsd⟩ : ∃ s, s = l[j] := ⟨_, rfl⟩
            rw [← hsd] at hz hcc ho
            have HZ := Lib.hid hz
            have HSD := Lib.hid hsd
            have HO := Lib.hid ho
            have SW : Hid (Safe S Nix wr.heap.size) := S3.out.mono hK.size
            have hob : Hid (B < wr.heap.size) := HBR.out.lt
            clear hc hsd hz ho hB hK
            go_upto_region 13 with (first
              | (refine wpList_load_st rfl _ rfl b (ol + j * 24) rfl sa s hcc ?_)
              | (refine wpList_store_st rfl _ _ rfl wr.heap.size rfl sa s rfl _ (heap_alloc_new wr _) rfl ?_; intro w6 hB6 hk6; have KA6 : Hid (Kept Nix wr w6) := ((Kept.refl Nix wr).alloc _).step hk6 (fun y hy => .inr (by subst hy; exact Nat.le_refl _)); have HB6 := Lib.hid hB6; clear hB6 hk6))
            obtain ⟨gN, hgN⟩ : ∃ g, g = wr.heap.size := ⟨_, rfl⟩
            rw [← hgN] at HB6 ⊢
            have HGN := Lib.hid hgN
            have BR6 := Lib.hid (HBR.out.kept KA6.out (fun h => h))
            have K36 : Hid (Kept (fun b => B ≤ b) w3 w6) := HKR.out.quiet KA6.out
            have HO6 : Hid (StOk w6 S sa s) := HO.out.to KA6.out (SW.out) (fun _ h => h)
            clear hgN hcc HO
            have x1 := BR6.out.cell hlt
            cases hoj : o' j with
            | false =>
              have step := Lib.hid (hJ.out.next (fun _ h => by rw [hoj] at h; cases h))
              rw [hoj] at x1
              clear hoj
              go_wp2_with fail
              go_roundw
              case rel => exact ⟨o', b', j + 1, rfl, by go_num, by omega, BR6.out, step, K36.out⟩
              case measure => simp [intOf]; omega
            | true =>
              rw [hoj] at x1
              have HOJ := Lib.hid hoj
              clear hoj
              obtain ⟨c0, c1, _, _, _, _, _, _, _, _, _, _, _, _, _, _, _, _, _, _, _, c21, c22, c23⟩ := HB6.out.cells
              obtain ⟨Nb, hNb⟩ : ∃ n, n = w6.heap.size := ⟨_, rfl⟩
              have HNB := Lib.hid hNb
              have hgb : Hid (gN < Nb ∧ B < Nb) := ⟨by rw [hNb]; exact HB6.out.lt, by rw [hNb]; exact BR6.out.lt⟩
              have L6 : Hid (StsAt w6 S (some ⟨b, ol, none⟩) l) := L3.out.to K36.out SX3.out (fun _ h => h)
              have S6 : Hid (Safe S Nix w6.heap.size) := S3.out.mono K36.out.size
              have hjl : j ≤ 1048576 := by omega
              have HAF : Hid (∀ (n : ByteArray) (wy : World), Kept Nix w6 wy → Calls Try.prog 19 #[.slice (some ⟨b, ol, none⟩) l.length cl, .int .i64 j, .string n] wy (IntQ (afterF l j n) wy)) := fun n wy hk => after_any l _ cl j n S wy (L6.out.to hk S6.out (fun _ h => h)) (S6.out.mono hk.size) hlen hjl
              obtain ⟨GL, hGL⟩ : ∃ GL, GL = gosL l j s := ⟨_, rfl⟩
              have HGL := Lib.hid hGL
              clear hNb hGL
              go_upto_if 45 with fail
              clear x1
              go_cut [9] (fun v wx => ∃ a c, v = .slice a GL.length c ∧ Win wx Nb 3 1 v GL.length (GL.map intV) ∧ Kept (fun b => Nb ≤ b) w6 wx)
              case first =>
                by_cases h0 : s.always.size = 0
                rotate_left
                · have e3 : s.always.toList.isEmpty = false := isEmpty_size'.2 (by omega)
                  have fin : Hid (GL = [afterF l j s.always]) := by unfold Hid; rw [HGL.out]; unfold gosL; rw [if_pos h0]
                  clear h0
                  rw [e3]
                  go_wp2_with (first
                    | (go_at_call 19; (with_reducible refine (HAF.out s.always w6 (Kept.refl _ _)).mono ?_); rintro e w7 ⟨rfl, k7_⟩; have K7 := Lib.hid k7_; clear k7_)
                    | (at_builtin; go_loud (refine wpList_append_ints rfl (.tmp 46) (.tmp 52) rfl Nb _ 0 [] rfl (Win.nil ..) _ 1 [.int .i64 (afterF l j s.always)] rfl (int_src (heap_alloc_new _ _)) (by omega) (by have := K7.out.size; have := HNB.out; simp; omega) ?_); intro a8 c8 w8 hW8 hg8 _; have W8 := Lib.hid hW8; have K8 : Hid (Kept (fun b => Nb ≤ b) w6 w8) := ((K7.out.alloc _).more (fun _ h => h.elim)).grown hg8 (fun k hk => by cases hk); clear hW8 hg8))
                  go_meet
                  rw [fin.out]
                  exact ⟨a8, c8, rfl, W8.out, K8.out⟩
                have e3 : s.always.toList.isEmpty = true := isEmpty_size.2 h0
                have H0 := Lib.hid h0
                clear h0
                cases hm : mayF s with
                | false =>
                  have fin : Hid (GL = [afterF l j s.yes]) := by unfold Hid; rw [HGL.out]; unfold gosL; rw [if_neg (fun h => h H0.out), if_neg (by rw [hm]; decide)]
                  have hkind : s.kind = 1 ∨ s.kind = 6 ∨ s.kind = 7 := by unfold mayF at hm; have := of_decide_eq_false hm; omega
                  clear hm
                  rw [e3]
                  rcases hkind with hk | hk | hk <;> rw [hk] at c1
                  all_goals
                    clear hk
                    go_wp2_with (first
                      | (go_at_call 19; (with_reducible refine (HAF.out s.yes w6 (Kept.refl _ _)).mono ?_); rintro e w7 ⟨rfl, k7_⟩; have K7 := Lib.hid k7_; have HB7 := HB6.out.kept k7_ (fun h => h); clear k7_)
                      | (at_builtin; go_loud (refine wpList_append_ints rfl (.tmp 54) (.tmp 60) rfl Nb _ 0 [] rfl (Win.nil ..) _ 1 [.int .i64 (afterF l j s.yes)] rfl (int_src (heap_alloc_new _ _)) (by omega) (by have := K7.out.size; have := HNB.out; simp; omega) ?_); intro a8 c8 w8 hW8 hg8 _; have W8 := Lib.hid hW8; have K8 : Hid (Kept (fun b => Nb ≤ b) w6 w8) := ((K7.out.alloc _).more (fun _ h => h.elim)).grown hg8 (fun k hk => by cases hk); have d1 := (K8.out.cell HB6.out.lt (by have := hgb.out.1; omega)).trans c1; clear hW8 hg8))
                    go_meet
                    rw [fin.out]
                    exact ⟨a8, c8, rfl, W8.out, K8.out⟩
                | true =>
                  have fin : Hid (GL = [afterF l j s.yes, afterF l j s.noes]) := by unfold Hid; rw [HGL.out]; unfold gosL; rw [if_neg (fun h => h H0.out), if_pos hm]
                  have hkind : s.kind ≠ 1 ∧ s.kind ≠ 6 ∧ s.kind ≠ 7 := by unfold mayF at hm; exact of_decide_eq_true hm
                  have z1 : (s.kind != 1) = true := by simpa using hkind.1
                  have z2 : (s.kind != 6) = true := by simpa using hkind.2.1
                  have z3 : (s.kind != 7) = true := by simpa using hkind.2.2
                  clear hm hkind
                  rw [e3]
                  go_wp2_with (first
                    | (go_at_call 19; (with_reducible refine (HAF.out s.yes w6 (Kept.refl _ _)).mono ?_); rintro e w7 ⟨rfl, k7_⟩; have K7 := Lib.hid k7_; clear k7_)
                    | (at_builtin; go_loud (refine wpList_append_ints rfl (.tmp 54) (.tmp 60) rfl Nb _ 0 [] rfl (Win.nil ..) _ 1 [.int .i64 (afterF l j s.yes)] rfl (int_src (heap_alloc_new _ _)) (by omega) (by have := K7.out.size; have := HNB.out; simp; omega) ?_); intro a8 c8 w8 hW8 hg8 _; have W8 := Lib.hid hW8; have K8 : Hid (Kept (fun b => Nb ≤ b) w6 w8) := ((K7.out.alloc _).more (fun _ h => h.elim)).grown hg8 (fun k hk => by cases hk); have d1 := (K8.out.cell HB6.out.lt (by have := hgb.out.1; omega)).trans c1; have d23 := (K8.out.cell HB6.out.lt (by have := hgb.out.1; omega)).trans c23; have K8n : Hid (Kept Nix w6 w8) := (Kept.refl Nix w6).step K8.out (fun y hy => .inr (by rw [← HNB.out]; exact hy)); clear hW8 hg8)
                    | (go_at_call 19; (with_reducible refine (HAF.out s.noes w8 K8n.out).mono ?_); rintro e w9 ⟨rfl, k9_⟩; have K9 := Lib.hid k9_; clear k9_)
                    | (at_builtin; go_loud (refine wpList_append_ints rfl (.tmp 75) (.tmp 81) rfl Nb _ 1 [.int .i64 (afterF l j s.yes)] rfl (Win.alloc (W8.out.kept K9.out (fun _ _ h => h)) _) _ 1 [.int .i64 (afterF l j s.noes)] rfl (int_src (heap_alloc_new _ _)) (by omega) (by have := K8.out.size; have := K9.out.size; have := HNB.out; simp; omega) ?_); intro a10 c10 w10 hW10 hg10 _; have W10 := Lib.hid hW10; have K10 : Hid (Kept (fun b => Nb ≤ b) w6 w10) := ((K8.out.quiet K9.out).alloc _).grown hg10 (fun k hk => .inl (W8.out.lt k hk).1); clear hW10 hg10))
                  go_meet
                  rw [fin.out]
                  exact ⟨a10, c10, rfl, W10.out, K10.out⟩
              case rest =>
                obtain ⟨a8, c8, rfl, hW8, hK8⟩ := hcut
                obtain ⟨w8, hw8⟩ : ∃ x, x = wc := ⟨_, rfl⟩
                rw [← hw8] at hW8 hK8 ⊢
                have W8 := Lib.hid hW8; have K8 := Lib.hid hK8
                clear hw8 hW8 hK8 c0 c1 c21 c22 c23
                have HB8 := Lib.hid (HB6.out.kept K8.out (by have := hgb.out.1; omega))
                have K68 : Hid (Kept Nix w6 w8) := (Kept.refl Nix w6).step K8.out (fun y hy => .inr (by rw [← HNB.out]; exact hy))
                have S8 := Lib.hid (S6.out.mono K68.out.size)
                have HO8 := Lib.hid (HO6.out.to K68.out S6.out (fun _ h => h))
                have HC8 := Lib.hid HB8.out.hc
                go_upto_region 21 with (first
                  | (refine wpList_load_st rfl _ rfl gN 0 rfl sa s HC8.out ?_)
                  | (go_at_call 20; (refine (exprs_any s (stVal sa s) S w8 ⟨sa, rfl, HZ.out, HO8.out⟩ S8.out).mono ?_); rintro e w9 ⟨a9, c9, rfl, hP9, k9_⟩; have P9 := Lib.hid hP9; have K9 := Lib.hid k9_; clear hP9 k9_))
                have hgl : Hid (GL.length ≤ 2) := by unfold Hid; rw [HGL.out]; unfold gosL; split <;> (try split) <;> simp
                have own8 : Hid (∀ k, (Value.slice a8 GL.length c8).ownBlock = some k → Nb ≤ k ∧ k < w8.heap.size) := fun k hk => W8.out.lt k hk
                have W9 := Lib.hid (W8.out.kept K9.out (fun _ _ h => h))
                have hI9 := Lib.hid (StepI.start (Np := w9.heap.size) W9.out)
                have K69 : Hid (Kept Nix w6 w9) := K68.out.trans K9.out
                have hcl : Hid ((callsOf (exprsS s)).length ≤ 2097152) := by
                  have h := namesS_len s HZ.out
                  have e : namesS s = callsOf (exprsS s) := (called_namesL _).symm
                  rw [e] at h; exact h
                have hxs : Hid (∀ x ∈ exprsS s, sizeT x ≤ 1048576) := by
                  unfold Hid exprsS
                  intro x hx
                  split at hx
                  · simp only [List.mem_singleton] at hx; subst hx; exact HZ.out.value.t
                  · split at hx
                    · simp only [List.mem_cons, List.not_mem_nil, or_false] at hx; rcases hx with rfl | rfl; exact HZ.out.target.t; exact HZ.out.value.t
                    · cases hx
                have hx2 : (exprsS s).length ≤ 2 := by unfold exprsS; split <;> (try split) <;> simp
                have hcalled : Hid (∀ n ∈ callsOf (exprsS s), (∃ d : Nat, funcF l n = (d : Int) ∧ d < l.length) ∧ callT' l n = labelF l (entryAt l (funcF l n))) := fun n hn => ⟨(right_called HC.out j hlt n (by rw [← HSD.out]; exact hn)).1, rfl⟩
                have h89 := K9.out.size
                have S9 : Hid (∀ v N, (∀ k, v.ownBlock = some k → Nb ≤ k ∧ k < w8.heap.size) → w9.heap.size ≤ N → Safe (fun b => S b ∨ (w8.heap.size ≤ b ∧ b < w9.heap.size)) (XV v N) w9.heap.size) := fun v N h1 h2 b hb => by
                  have hs := fun h => (S6.out b h).1
                  rw [← HNB.out] at hs
                  rcases hb with hb | hb
                  · exact ⟨by have := hs hb; have := (S8.out b hb).1; omega, fun h => by rcases h with h | h; (have := h1 b h; have := hs hb; omega); (have := (S8.out b hb).1; omega)⟩
                  · exact ⟨hb.2, fun h => by rcases h with h | h; (have := h1 b h; omega); omega⟩
                have KX9 : Hid (∀ (v : Value) (N : Nat) (wy : World), (∀ k, v.ownBlock = some k → Nb ≤ k) → Nb ≤ N → Kept (XV v N) w9 wy → Kept (fun b => Nb ≤ b) w6 wy) := fun v N wy h1 h2 hk => (K69.out.more (fun _ h => h.elim)).trans (hk.more fun b hb => hb.elim (h1 b) (fun h => Nat.le_trans h2 h))
                have hN9 : Hid (Nb ≤ w9.heap.size) := by rw [HNB.out]; exact K69.out.size
                clear W8 HC8 HO8
                generalize hX : exprsS s = X at *
                have HX := Lib.hid hX
                clear hX
                generalize hv8 : Value.slice a8 GL.length c8 = v8 at *
                clear hv8
                go_loopw [9, 86] (fun v i wr => ∃ (m : Nat) (dn : List ByteArray) (X2 : List Int), m ≤ X.length ∧ i = .int .i64 m ∧ Hid (callsOf X = dn ++ callsOf (X.drop m)) ∧ Hid (X2 = GL ++ dn.map (callT' l)) ∧ StepI Nb w9.heap.size v8 w9 X2 v wr) (fun _ i _ => X.length - (intOf i).toNat)
                case atStart => exact ⟨0, [], GL, Nat.zero_le _, rfl, by unfold Hid; rw [List.drop_zero]; rfl, by unfold Hid; simp, hI9.out⟩
                case round =>
                  obtain ⟨m, dn, X2, hm, rfl, hno, HX2, hI⟩ := hrel
                  have HI := Lib.hid hI
                  obtain ⟨a10, c10, rfl, hW10, ho10, hk10⟩ := hI
                  have W10 := Lib.hid hW10; have K10 := Lib.hid hk10
                  have KB10 := Lib.hid (KX9.out _ _ _ (fun k hk => (own8.out k hk).1) hN9.out hk10)
                  clear hW10 ho10 hk10
                  by_cases hlm : m < X.length
                  · have SR := S9.out v8 w9.heap.size own8.out (Nat.le_refl _)
                    have hks := P9.out.kept K10.out SR
                    obtain ⟨b1, o1, rfl⟩ := PatsAt_head hks (by omega)
                    obtain ⟨_, hz1, p0, p1, p2, p3, ka1, cap1, p4, hk1⟩ := (PatsAt_get X b1 o1 m hlm hks).open
                    have hxz := hxs.out _ (List.getElem_mem hlm)
                    have step3 : Hid (callsOf X = (dn ++ calledL (allT X[m])) ++ callsOf (X.drop (m + 1))) := by
                      unfold Hid; rw [hno.out, List.drop_eq_getElem_cons hlm]
                      show dn ++ calledL (allL _) = _
                      rw [allL, calledL_app, List.append_assoc]; rfl
                    have kA : Kept Nix wr (wr.alloc (.cells #[.int .i64 X[m].kind, .string X[m].text, .int .i64 X[m].n, .string X[m].name, .slice ka1 X[m].kids.length cap1] 35)) := (Kept.refl _ _).alloc _
                    have hSr : Safe (fun b => S b ∨ (w8.heap.size ≤ b ∧ b < w9.heap.size)) Nix wr.heap.size := fun b hb => ⟨Nat.lt_of_lt_of_le (SR b hb).1 K10.out.size, fun h => h⟩
                    have HAL := Lib.hid (ExAll_any 100000000 X[m] _ _ _ (by omega) (by omega) (⟨ka1, cap1, rfl, hz1, hk1.kept kA hSr⟩ : PatV (wr.alloc (.cells #[.int .i64 X[m].kind, .string X[m].text, .int .i64 X[m].n, .string X[m].name, .slice ka1 X[m].kids.length cap1] 35)) _ _ X[m]) (hSr.mono kA.size))
                    have KA := Lib.hid kA
                    have SA := Lib.hid (hSr.mono kA.size)
                    clear hks hk1 kA hSr SR hno
                    go_wp2_with fail
                    refine HAL.out.mono ?_
                    rintro e w11 ⟨v11, rfl, ⟨cs, hW, hR⟩, k11⟩
                    have hlen11 := allT_length X[m]
                    obtain ⟨gx, ox, cp, rfl, hgx, hgx2, hat⟩ := hW.row5 hR (by rw [hlen11]; exact sizeT_pos _)
                    have K11 : Hid (Kept Nix wr w11) := KA.out.trans k11
                    have AT := Lib.hid hat
                    have hyl : (allT X[m]).length ≤ 1048576 := by rw [hlen11]; exact hxz
                    have hgx' : Hid (wr.heap.size ≤ gx ∧ gx < w11.heap.size) := ⟨by have := KA.out.size; omega, hgx2⟩
                    have SB : Hid (∀ v N, (∀ k, v.ownBlock = some k → Nb ≤ k ∧ k < wr.heap.size ∧ ¬ (w8.heap.size ≤ k ∧ k < w9.heap.size)) → w11.heap.size ≤ N → Safe (fun b => (S b ∨ (w8.heap.size ≤ b ∧ b < w9.heap.size)) ∨ b = gx) (XV v N) w11.heap.size) := fun v N h1 h2 b hb => by
                      have hs := fun h => (S6.out b h).1
                      rw [← HNB.out] at hs
                      have h3 := k11.size; have h4 := hgx'.out
                      rcases hb with hb | rfl
                      · have h5 := (SA.out b hb).1
                        refine ⟨by omega, fun h => ?_⟩
                        rcases h with h | h
                        · have h6 := h1 b h
                          rcases hb with hb | hb
                          · have := hs hb; omega
                          · exact h6.2.2 hb
                        · omega
                      · refine ⟨h4.2, fun h => ?_⟩
                        rcases h with h | h
                        · have h6 := h1 _ h; omega
                        · omega
                    have W11 := Lib.hid (W10.out.kept K11.out (fun _ _ h => h))
                    have hI11 := Lib.hid (StepI.start (Np := w11.heap.size) W11.out)
                    have own10 : Hid (∀ k, (Value.slice a10 X2.length c10).ownBlock = some k → Nb ≤ k ∧ k < wr.heap.size ∧ ¬ (w8.heap.size ≤ k ∧ k < w9.heap.size)) := fun k hk => by
                      obtain ⟨_, _, e, _, h3, _⟩ := HI.out
                      have h1 := W10.out.lt k hk
                      refine ⟨h1.1, h1.2, fun h => ?_⟩
                      rcases h3 k hk with h2 | h2
                      · have := (own8.out k h2).2; omega
                      · omega
                    generalize hY : allT X[m] = Y at *
                    clear hY hW hR hat hgx hgx2 k11 HAL SA KA p0 p1 p2 p3 p4 hlen11
                    generalize hv10 : Value.slice a10 X2.length c10 = v10 at *
                    go_wp2_with fail
                    have K611 : Hid (Kept (fun b => Nb ≤ b) w6 w11) := KB10.out.quiet K11.out
                    have SX6 : Hid (Safe S (fun b => Nb ≤ b) w6.heap.size) := fun b hb => ⟨(S6.out b hb).1, fun h => by have h1 := (S6.out b hb).1; have h2 : Nb ≤ b := h; rw [← HNB.out] at h1; omega⟩
                    have hN11 : Hid (Nb ≤ w11.heap.size ∧ w9.heap.size ≤ w11.heap.size) := by
                      have h1 := K11.out.size; have h2 := K10.out.size; have h3 := hN9.out
                      unfold Hid; omega
                    have hmem : Hid (∀ n ∈ calledL Y, n ∈ callsOf X) := fun n hn => by rw [step3.out]; simp [hn]
                    have hX2l : Hid (X2.length + (calledL Y).length ≤ 2097154) := by
                      have h1 := hcl.out; have h2 := hgl.out
                      rw [step3.out] at h1
                      unfold Hid; rw [HX2.out]; simp at h1 ⊢; omega
                    go_loopw [9, 93] (fun v i wr => ∃ (q : Nat) (dq : List ByteArray) (X3 : List Int), q ≤ Y.length ∧ i = .int .i64 q ∧ Hid (calledL Y = dq ++ calledL (Y.drop q)) ∧ Hid (X3 = X2 ++ dq.map (callT' l)) ∧ StepI Nb w11.heap.size v10 w11 X3 v wr) (fun _ i _ => Y.length - (intOf i).toNat)
                    case atStart => exact ⟨0, [], X2, Nat.zero_le _, rfl, by unfold Hid; rw [List.drop_zero]; rfl, by unfold Hid; simp, hI11.out⟩
                    case round =>
                      obtain ⟨q, dq, X3, hq, rfl, hnq, HX3, hI3⟩ := hrel
                      have HI3 := Lib.hid hI3
                      obtain ⟨a12, c12, rfl, hW12, ho12, hk12⟩ := hI3
                      have W12 := Lib.hid hW12; have K12 := Lib.hid hk12
                      have KW12 : Hid (Kept (fun b => Nb ≤ b) w6 wr) := K611.out.trans (hk12.more fun b hb => hb.elim (fun h => (own10.out b h).1) (fun h => Nat.le_trans hN11.out.1 h))
                      clear hW12 ho12 hk12
                      by_cases hlq : q < Y.length
                      · obtain ⟨_, hz2, p0, p1, p2, p3, ka2, cap2, p4, hk2⟩ := ((AT.out q hlq).kept K12.out (SB.out v10 w11.heap.size own10.out (Nat.le_refl _))).open
                        have hdr : calledL (Y.drop q) = (if Y[q].kind = 6 ∧ builtinF Y[q].name < 0 then [Y[q].name] else []) ++ calledL (Y.drop (q + 1)) := by rw [List.drop_eq_getElem_cons hlq, calledL]
                        have hnmz : Y[q].name.size ≤ maxLen := by have := hz2.2.1; unfold maxLen; omega
                        have hyk := hz2.2.2
                        clear hk2
                        generalize Y[q] = y at *
                        by_cases hy6 : y.kind = 6
                        rotate_left
                        · have z1 : (y.kind == 6) = false := by simpa using hy6
                          rw [if_neg (fun h => hy6 h.1), List.nil_append] at hdr
                          have step := Lib.hid (hnq.out.trans (by rw [hdr]))
                          have HI4 : Hid (StepI Nb w11.heap.size v10 w11 X3 (.slice a12 X3.length c12) (wr.alloc (.cells #[.int .i64 y.kind, .string y.text, .int .i64 y.n, .string y.name, .slice ka2 y.kids.length cap2] 35))) := by
                            obtain ⟨a, c, h1, h2, h3, h4⟩ := HI3.out
                            exact ⟨a, c, h1, h2.alloc _, h3, h4.alloc _⟩
                          clear hdr hy6
                          go_wp2_with fail
                          go_roundw
                          case rel => exact ⟨q + 1, dq, X3, by omega, by go_num, step, HX3, HI4.out⟩
                          case measure => simp [intOf]; omega
                        have z1 : (y.kind == 6) = true := by simpa using hy6
                        have HY6 := Lib.hid hy6
                        clear hy6
                        have BX : Hid (Box5 wr.heap.size (.int .i64 y.kind) (.string y.text) (.int .i64 y.n) (.string y.name) (.slice ka2 y.kids.length cap2) (wr.alloc (.cells #[.int .i64 y.kind, .string y.text, .int .i64 y.n, .string y.name, .slice ka2 y.kids.length cap2] 35))) := Box5.new ..
                        obtain ⟨wy, hwy⟩ : ∃ wy, wy = wr.alloc (.cells #[.int .i64 y.kind, .string y.text, .int .i64 y.n, .string y.name, .slice ka2 y.kids.length cap2] 35) := ⟨_, rfl⟩
                        have KY : Hid (Kept Nix wr wy) := by rw [hwy]; exact (Kept.refl _ _).alloc _
                        rw [← hwy] at BX
                        have HWY := Lib.hid hwy
                        clear hwy
                        go_upto_region 26 with fail
                        rw [← HWY.out]
                        clear HWY p0 p1 p2 p3 p4
                        obtain ⟨p0, p3⟩ : wy.cell? ⟨wr.heap.size, 0, none⟩ = some (.int .i64 y.kind) ∧ wy.cell? ⟨wr.heap.size, 3, none⟩ = some (.string y.name) := ⟨BX.out.h0, BX.out.h3⟩
                        have HBI : Hid (∀ wz, Kept Nix wy wz → StepI Nb w11.heap.size v10 w11 X3 (.slice a12 X3.length c12) wz) := fun wz hk => by
                          obtain ⟨a, c, h1, h2, h3, h4⟩ := HI3.out
                          exact ⟨a, c, h1, (h2.kept KY.out (fun _ _ h => h)).kept hk (fun _ _ h => h), h3, (h4.quiet KY.out).quiet hk⟩
                        by_cases hb : builtinF y.name < 0
                        rotate_left
                        · have e1 : decide (builtinF y.name < 0) = false := decide_eq_false hb
                          rw [if_neg (fun h => hb h.2), List.nil_append] at hdr
                          have step := Lib.hid (hnq.out.trans (by rw [hdr]))
                          clear hdr hb
                          go_wp2_with (go_at_call 8; (refine (args_any y.name wy).mono ?_); rintro e wz ⟨rfl, kz_⟩; have KZ := Lib.hid kz_; clear kz_)
                          go_roundw
                          case rel => exact ⟨q + 1, dq, X3, by omega, by go_num, step, HX3, HBI.out _ KZ.out⟩
                          case measure => simp [intOf]; omega
                        have e1 : decide (builtinF y.name < 0) = true := decide_eq_true hb
                        rw [if_pos ⟨HY6.out, hb⟩] at hdr
                        have step : Hid (calledL Y = (dq ++ [y.name]) ++ calledL (Y.drop (q + 1))) := by unfold Hid; rw [hnq.out, hdr, List.append_assoc]
                        have hin := hmem.out y.name (by rw [step.out]; simp)
                        obtain ⟨⟨d, hfd, hdl⟩, hct⟩ := hcalled.out y.name hin
                        have hent : entryAt l (funcF l y.name) = l[d].entry := by unfold entryAt; rw [hfd, Int.toNat_natCast, List.getElem?_eq_getElem hdl]
                        rw [hent] at hct
                        have hX3l : X3.length + 1 ≤ 4000000000 := by
                          have h1 := hX2l.out
                          rw [step.out] at h1
                          rw [HX3.out]; simp at h1 ⊢; omega
                        have hstepX : Hid (X3 ++ [callT' l y.name] = X2 ++ (dq ++ [y.name]).map (callT' l)) := by unfold Hid; rw [HX3.out, List.map_append, List.append_assoc]; rfl
                        have KWY : Hid (Kept (fun b => Nb ≤ b) w6 wy) := KW12.out.quiet KY.out
                        have LY : Hid (StsAt wy S (some ⟨b, ol, none⟩) l) := L6.out.to KWY.out SX6.out (fun _ h => h)
                        have SY : Hid (Safe S Nix wy.heap.size) := S6.out.mono KWY.out.size
                        have HENT : Hid (∀ wz, Kept Nix wy wz → wz.cell? ⟨b, ol + d * 24 + 18, none⟩ = some (.string l[d].entry)) := fun wz hk => by
                          obtain ⟨b', o', he, hc⟩ := (LY.out.to hk SY.out (fun _ h => h)) (by omega)
                          simp only [Option.some.injEq, Addr.mk.injEq, and_true] at he
                          obtain ⟨rfl, rfl⟩ := he
                          obtain ⟨sa3, hSb3, hz3, hcc3, ho3⟩ := hc d hdl
                          exact hcc3 18 (by decide)
                        have HCT := Lib.hid hct; have HFD := Lib.hid hfd
                        have hbase : Hid (Nb ≤ wy.heap.size ∧ w11.heap.size ≤ wy.heap.size) := by
                          have h1 := KY.out.size; have h2 := K12.out.size; have h3 := hN11.out.1
                          unfold Hid; omega
                        have HLF : Hid (∀ (n : ByteArray) (wz : World), Kept Nix wy wz → Calls Try.prog 23 #[.slice (some ⟨b, ol, none⟩) l.length cl, .string n] wz (IntQ (funcF l n) wz)) := fun n wz hk => func_any l _ cl n S wz (LY.out.to hk SY.out (fun _ h => h)) (SY.out.mono hk.size) hlen
                        have HLL : Hid (∀ (n : ByteArray) (wz : World), Kept Nix wy wz → Calls Try.prog 22 #[.slice (some ⟨b, ol, none⟩) l.length cl, .string n] wz (IntQ (labelF l n) wz)) := fun n wz hk => label_any l _ cl n S wz (LY.out.to hk SY.out (fun _ h => h)) (SY.out.mono hk.size) hlen
                        generalize l[d].entry = en at *
                        clear hdr hb hin hct hfd hent
                        go_wp2_with (first
                          | (go_at_call 8; (refine (args_any y.name wy).mono ?_); rintro e wz ⟨rfl, kz_⟩; have KZ := Lib.hid kz_; have pz := (BX.out.kept kz_ (fun h => h)).h3; clear kz_)
                          | (go_at_call 23; (with_reducible refine (HLF.out y.name wz KZ.out).mono ?_); rintro e wf ⟨rfl, kf_⟩; rw [HFD.out]; have KF := Lib.hid (KZ.out.trans kf_); have pe := HENT.out wf KF.out; clear kf_)
                          | (go_at_call 22; (with_reducible refine (HLL.out en wf KF.out).mono ?_); rintro e wl ⟨rfl, kl_⟩; rw [← HCT.out]; have KL := Lib.hid (KF.out.trans kl_); clear kl_)
                          | (at_builtin; go_loud (refine wpList_append_ints rfl (.tmp 106) (.tmp 117) rfl Nb _ X3.length (X3.map intV) rfl (Win.alloc ((W12.out.kept KY.out (fun _ _ h => h)).kept KL.out (fun _ _ h => h)) _) _ 1 [.int .i64 (callT' l y.name)] rfl (int_src (heap_alloc_new _ _)) hX3l (by have := KL.out.size; have := hbase.out; simp; omega) ?_); intro a13 c13 w13 hW13 hg13 ho13; have HI13 := Lib.hid ((HBI.out wl KL.out).app (x := callT' l y.name) (by have := KL.out.size; have := hbase.out; omega) ((Kept.refl Nix wl).alloc _) hW13 hg13 ho13); clear hW13 hg13 ho13))
                        go_roundw
                        case rel => exact ⟨q + 1, dq ++ [y.name], X3 ++ [callT' l y.name], by omega, by go_num, step, hstepX, by have h_ := HI13.out; exact h_⟩
                        case measure => simp [intOf]; omega
                      · obtain rfl : q = Y.length := by omega
                        have hX3 : Hid (X3 = GL ++ (dn ++ calledL Y).map (callT' l)) := by
                          unfold Hid; rw [HX3.out, HX2.out, List.map_append, List.append_assoc, hnq.out, List.drop_length]; simp [calledL]
                        have HI14 := Lib.hid (HI.out.trans K11.out hN11.out.2 HI3.out)
                        go_wp2_with fail
                        go_roundw
                        case rel => exact ⟨m + 1, dn ++ calledL Y, X3, by omega, by go_num, step3, hX3, HI14.out⟩
                        case measure => simp [intOf]; omega
                  · obtain rfl : m = X.length := by omega
                    have hX2 : Hid (X2 = toL l j l[j]) := by
                      unfold Hid toL
                      rw [HX2.out, ← HSD.out, HX.out, ← HGL.out, hno.out, List.drop_length]; simp [callsOf, allL, calledL]
                    obtain ⟨w14, hw14⟩ : ∃ x, x = wr := ⟨_, rfl⟩
                    rw [← hw14] at KB10 W10 ⊢
                    clear hw14 HI HX2 hno
                    have BR14 := Lib.hid (BR6.out.kept KB10.out (by have := hgb.out.2; omega))
                    have K314 : Hid (Kept (fun b => B ≤ b) w3 w14) := K36.out.trans (KB10.out.more (fun b (hb : Nb ≤ b) => (show B ≤ b by have := hgb.out.2; omega)))
                    have hcellX : Hid (∀ q (hq : q < X2.length), ∃ g og, a10 = some ⟨g, og, none⟩ ∧ Nb ≤ g ∧ g < w14.heap.size ∧ X2.length ≤ c10 ∧ w14.cell? ⟨g, og + q, none⟩ = some (.int .i64 X2[q])) := fun q hq => by
                      rcases W10.out.cells with ⟨_, h0⟩ | ⟨g, og, cp, hv, h1, h2, h3, _, h5⟩
                      · omega
                      · simp only [Value.slice.injEq, true_and] at hv
                        obtain ⟨rfl, rfl⟩ := hv
                        exact ⟨g, og, rfl, h1, h2, h3, (h5 q (.int .i64 X2[q]) (by rw [List.getElem?_map, List.getElem?_eq_getElem hq]; rfl)).1⟩
                    have hX2l : X2.length ≤ 2097154 := by rw [hX2.out]; exact toL_len l j _ (by rw [← HSD.out]; exact HZ.out)
                    go_wp2_with fail
                    go_loopw [6, 123] (fun v i wr => ∃ (p : Nat → Bool) (c : Bool) (q : Nat), v = .bool c ∧ i = .int .i64 q ∧ q ≤ X2.length ∧ BRow wr B l.length p ∧ Hid (RdJ l o j (X2.take q) c p) ∧ Hid (p j = true) ∧ Kept (· = B) w14 wr) (fun _ i _ => X2.length - (intOf i).toNat)
                    case atStart => exact ⟨o', b', 0, rfl, rfl, Nat.zero_le _, BR14.out, by rw [List.take_zero]; exact hJ, HOJ, Kept.refl _ _⟩
                    case round =>
                      obtain ⟨p, c, q, rfl, rfl, hq, hB, hJ2, hpj, hK⟩ := hrel
                      have HB2 := Lib.hid hB; have HK2 := Lib.hid hK
                      clear hB hK
                      by_cases hlq : q < X2.length
                      · obtain ⟨g, og, rfl, hgN, hgl2, hcap, hcl2⟩ := hcellX.out q hlq
                        have x5 : wr.cell? ⟨g, og + q, none⟩ = some (.int .i64 X2[q]) := (HK2.out.cell hgl2 (fun h => by have h1 : g = B := h; have := hgb.out.2; omega)).trans hcl2
                        have htk : Hid (X2.take (q + 1) = X2.take q ++ [X2[q]]) := List.take_succ_eq_append_getElem hlq
                        have hmm : Hid (X2[q] ∈ toL l j l[j]) := by unfold Hid; rw [← hX2.out]; exact List.getElem_mem hlq
                        generalize X2[q] = x at *
                        clear hcl2
                        by_cases hx0 : x < 0
                        · have d1 : decide (0 ≤ x) = false := decide_eq_false (by omega)
                          have step := Lib.hid (hJ2.out.skip (x := x) (fun k hk _ => by omega))
                          rw [← htk.out] at step
                          clear hx0
                          go_wp2_with fail
                          go_roundw
                          case rel => exact ⟨p, c, q + 1, rfl, by go_num, by omega, HB2.out, step, hpj, HK2.out⟩
                          case measure => simp [intOf]; omega
                        obtain ⟨kn, rfl⟩ := Int.eq_ofNat_of_zero_le (show 0 ≤ x by omega)
                        have d0 : decide ((0 : Int) ≤ (kn : Int)) = true := decide_eq_true (by omega)
                        by_cases hkl : kn < l.length
                        rotate_left
                        · have d1 : decide ((kn : Int) < (l.length : Int)) = false := decide_eq_false (by omega)
                          have d2 : decide (kn < l.length) = false := decide_eq_false hkl
                          have step := Lib.hid (hJ2.out.skip (x := (kn : Int)) (fun k hk hk2 => by omega))
                          rw [← htk.out] at step
                          clear hx0
                          go_wp2_with fail
                          go_roundw
                          case rel => exact ⟨p, c, q + 1, rfl, by go_num, by omega, HB2.out, step, hpj, HK2.out⟩
                          case measure => simp [intOf]; omega
                        have d1 : decide ((kn : Int) < (l.length : Int)) = true := decide_eq_true (by omega)
                        have d2 : decide (kn < l.length) = true := decide_eq_true hkl
                        have y1 := HB2.out.cell hkl
                        cases hpk : p kn with
                        | true =>
                          have step := Lib.hid (hJ2.out.skip (x := (kn : Int)) (fun k hk hk2 => by obtain rfl : kn = k := (by omega); exact hpk))
                          rw [← htk.out] at step
                          rw [hpk] at y1
                          clear hx0 hpk
                          go_wp2_with fail
                          go_roundw
                          case rel => exact ⟨p, c, q + 1, rfl, by go_num, by omega, HB2.out, step, hpj, HK2.out⟩
                          case measure => simp [intOf]; omega
                        | false =>
                          have y2 := HB2.out.free kn
                          have step := Lib.hid (hJ2.out.mark HC.out hlt hpj.out hkl hmm.out hpk)
                          rw [← htk.out] at step
                          have hpj2 : Hid (setO p kn j = true) := by unfold Hid setO; split; rfl; exact hpj.out
                          have HB3 := Lib.hid (HB2.out.set hkl)
                          have HK3 : Hid (Kept (· = B) w14 (wr.setCell ⟨B, kn, none⟩ (.bool true))) := HK2.out.setCell (p := ⟨B, kn, none⟩) (.inl rfl) _
                          rw [hpk] at y1
                          clear hx0 hpk
                          go_wp2_with fail
                          go_roundw
                          case rel => exact ⟨_, true, q + 1, rfl, by go_num, by omega, HB3.out, step, hpj2, HK3.out⟩
                          case measure => simp [intOf]; omega
                      · obtain rfl : q = X2.length := by omega
                        have step := Lib.hid (hJ2.out.next (fun _ _ => by rw [List.take_length]; exact hX2.out))
                        have KF : Hid (Kept (fun b => B ≤ b) w3 wr) := K314.out.trans (HK2.out.more (fun b hb => by have : b = B := hb; show B ≤ b; omega))
                        have HLT := Lib.hid hlt
                        go_wp2_with fail
                        go_roundw
                        case rel => exact ⟨p, c, j + 1, rfl, by go_num, by have := HLT.out; omega, HB2.out, step, KF.out⟩
                        case measure => have := HLT.out; simp [intOf]; omega
          · obtain rfl : j = l.length := by omega
            have step := Lib.hid hJ
            clear hB hK hJ
            cases b' with
            | false =>
              have fin := Lib.hid (step.out.end_ HC.out)
              have h1 := Lib.hid step.out.sound; have h2 := Lib.hid step.out.zero; have h3 := Lib.hid step.out.le
              have hm : Hid (2 * freshN o' l.length < gk) := by have h4 := hf.out; have h5 := h3.out; unfold Hid; simp at h4 h5; omega
              clear step
              go_wp2_with fail
              go_roundg (2 * freshN o' l.length)
              case measure => exact hm.out
              case rel => exact ⟨o', false, rfl, HBR.out, HKR.out, h1.out, h2.out, fun _ => fin.out, rfl⟩
            | true =>
              have h1 := Lib.hid step.out.sound; have h2 := Lib.hid step.out.zero; have h3 := Lib.hid step.out.le
              have hm : Hid (2 * freshN o' l.length + 1 < gk) := by have h4 := hf.out; have h5 := h3.out; unfold Hid; simp at h4 h5; omega
              clear step
              go_wp2_with fail
              go_roundg (2 * freshN o' l.length + 1)
              case measure => exact hm.out
              case rel => exact ⟨o', true, rfl, HBR.out, HKR.out, h1.out, h2.out, fun h => (by cases h), rfl⟩
end Go.Proofs.Ytkhhinmhgjicgaa
