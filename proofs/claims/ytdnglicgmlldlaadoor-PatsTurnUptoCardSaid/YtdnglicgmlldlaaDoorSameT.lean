/- The document's Same: of two equal trees it says true (for a seat without the document's reader). -/
import Derived.Test.YtdnglicgmlldlaaDoorRd6
import Derived.Test.YtdnglicgmlldlaaDoorRef4b
import Derived.Test.YtdnglicgmlldlaaDoorRef4c
import Derived.Test.YtdnglicgmlldlaaDoorRd3
import Derived.Deep.RegionWith
namespace Go.Proofs.YtdnglicgmlldlaaDoor
open Go.RowKit

set_option maxRecDepth 100000 in
set_option maxHeartbeats 2000000 in
theorem same_any : ∀ (m : Nat) (p : PatT) (v1 v2 : Value) (S1 S2 : Nat → Prop) (w : World), sizeT p ≤ m → m ≤ 100000000 → PatV w S1 v1 p → PatV w S2 v2 p → Safe S1 Nix w.heap.size → Safe S2 Nix w.heap.size → Calls Tryd.prog 9 #[v1, v2] w (BoolQ true w) := by
  intro m
  induction m with
  | zero => intro p v1 v2 S1 S2 w hm; have := sizeT_pos p; omega
  | succ m ih =>
    intro p v1 v2 S1 S2 w hm hmm hp1 hp2 hS1 hS2
    obtain ⟨k, t, n, nm, kids⟩ := p
    obtain ⟨ka, cap, rfl, hz, hk⟩ := hp1
    obtain ⟨kb, cbp, rfl, _, hkb⟩ := hp2
    dsimp only [PatT.kind_mk, PatT.text_mk, PatT.n_mk, PatT.name_mk, PatT.kids_mk] at hz hk hkb ⊢
    have hl : kids.length ≤ m := by have h := length_le_sizeL kids; simp only [sizeT] at hm; omega
    have hkz : kids.length < 1000000000 := hz.2.2
    have e1 : (k != k) = false := by simp
    have e2 : (n != n) = false := by simp
    have e3 : ((kids.length : Int) != (kids.length : Int)) = false := by simp
    have K0 : Kept Nix w ((w.alloc (.cells #[.int .i64 k, .string t, .int .i64 n, .string nm, .slice ka kids.length cap] 24)).alloc (.cells #[.int .i64 k, .string t, .int .i64 n, .string nm, .slice kb kids.length cbp] 24)) := ((Kept.refl _ _).alloc _).alloc _
    have F1 : Five w.heap.size (.int .i64 k) (.string t) (.int .i64 n) (.string nm) (.slice ka kids.length cap) ((w.alloc (.cells #[.int .i64 k, .string t, .int .i64 n, .string nm, .slice ka kids.length cap] 24)).alloc (.cells #[.int .i64 k, .string t, .int .i64 n, .string nm, .slice kb kids.length cbp] 24)) := Five.kept (heap_alloc_new w _) ((Kept.refl Nix _).alloc _) (fun h => h)
    have F2 : Five (w.heap.size + 1) (.int .i64 k) (.string t) (.int .i64 n) (.string nm) (.slice kb kids.length cbp) ((w.alloc (.cells #[.int .i64 k, .string t, .int .i64 n, .string nm, .slice ka kids.length cap] 24)).alloc (.cells #[.int .i64 k, .string t, .int .i64 n, .string nm, .slice kb kids.length cbp] 24)) := heap_new2 (by simp)
    have HK0 := Lib.hid K0; have HF1 := Lib.hid F1; have HF2 := Lib.hid F2; have HK := Lib.hid hk; have HKB := Lib.hid hkb
    have HIH := Lib.hid ih
    clear K0 F1 F2 hk hkb hz ih
    go_enter Tryd.func9, Tryd.ntmps9
    go_wp2_with fail
    go_loopw [44] (fun i wr => ∃ j : Nat, j ≤ kids.length ∧ i = .int .i64 j ∧ Kept Nix ((w.alloc (.cells #[.int .i64 k, .string t, .int .i64 n, .string nm, .slice ka kids.length cap] 24)).alloc (.cells #[.int .i64 k, .string t, .int .i64 n, .string nm, .slice kb kids.length cbp] 24)) wr) (fun i _ => kids.length - (intOf i).toNat)
    case atStart => exact ⟨0, Nat.zero_le _, rfl, Kept.refl _ _⟩
    case round =>
      obtain ⟨j, hj, rfl, hK⟩ := hrel
      have hKw := HK0.out.trans hK
      have HKw := Lib.hid hKw
      by_cases hlt : j < kids.length
      · have hk' := HK.out.kept hKw hS1
        have hkb' := HKB.out.kept hKw hS2
        obtain ⟨b1, o1, rfl⟩ := PatsAt_head hk' (by omega)
        obtain ⟨b2, o2, rfl⟩ := PatsAt_head hkb' (by omega)
        obtain ⟨_, hz1, p0, p1, p2, p3, ka1, cap1, p4, hk1⟩ := (PatsAt_get kids b1 o1 j hlt hk').open
        obtain ⟨_, hz2, q0, q1, q2, q3, ka2, cap2, q4, hk2⟩ := (PatsAt_get kids b2 o2 j hlt hkb').open
        obtain ⟨_, _, _, _, x4, _⟩ := (HF1.out.kept hK (fun h => h)).cells
        obtain ⟨_, _, _, _, y4, _⟩ := (HF2.out.kept hK (fun h => h)).cells
        have hszj : sizeT kids[j] ≤ m := by have := sizeT_get kids j hlt; simp only [sizeT] at hm; omega
        have hSr1 : Safe S1 Nix wr.heap.size := hS1.mono hKw.size
        have hSr2 : Safe S2 Nix wr.heap.size := hS2.mono hKw.size
        have HKr := Lib.hid hK
        have V1 : Hid (PatV wr.drew S1 (.agg #[.int .i64 kids[j].kind, .string kids[j].text, .int .i64 kids[j].n, .string kids[j].name, .slice ka1 kids[j].kids.length cap1]) kids[j]) := ⟨ka1, cap1, rfl, hz1, hk1.kept (Kept.refl Nix wr).drew hSr1⟩
        have V2 : Hid (PatV wr.drew S2 (.agg #[.int .i64 kids[j].kind, .string kids[j].text, .int .i64 kids[j].n, .string kids[j].name, .slice ka2 kids[j].kids.length cap2]) kids[j]) := ⟨ka2, cap2, rfl, hz2, hk2.kept (Kept.refl Nix wr).drew hSr2⟩
        have D1 := Lib.hid (hSr1.mono (Kept.refl Nix wr).drew.size); have D2 := Lib.hid (hSr2.mono (Kept.refl Nix wr).drew.size)
        clear hk' hkb' hk1 hk2 hK hSr1 hSr2 hz1 hz2 hm hKw
        go_upto_region 6 with fail
        go_cut [58] (fun c wx => c = .bool false ∧ Kept Nix wr wx)
        case first =>
          go_region_with ((go_at_call 9; (with_reducible refine (HIH.out kids[j] _ _ S1 S2 _ hszj (by omega) V1.out V2.out D1.out D2.out).mono ?_); rintro e w2 ⟨rfl, k_⟩; have K2 := Lib.hid ((Kept.refl Nix wr).drew.trans k_); clear k_))
          all_goals (go_wp2_with fail; go_meet; exact ⟨rfl, K2.out⟩)
        case rest =>
          obtain ⟨rfl, k2⟩ := hcut
          have K2 := Lib.hid (HKr.out.trans k2)
          clear p0 p1 p2 p3 p4 q0 q1 q2 q3 q4 x4 y4 k2
          go_wp2_with fail
          go_roundw
          case rel => exact ⟨j + 1, by omega, by go_num, K2.out⟩
          case measure => simp [intOf]; omega
      · obtain rfl : j = kids.length := by omega
        go_wp2_with fail
        go_ret
        exact ⟨rfl, HKw.out⟩
end Go.Proofs.YtdnglicgmlldlaaDoor
