/- The document's Show: pieces and alternatives. -/
import Derived.Test.YtdnglicgmlldlaaDoorShow4
import Derived.Test.YtdnglicgmlldlaaDoorSpell6
namespace Go.Proofs.YtdnglicgmlldlaaDoor
open Go.RowKit

set_option maxRecDepth 100000 in
set_option maxHeartbeats 4000000 in
theorem show_cat (i : Nat) (t : ByteArray) (n : Int) (nm : ByteArray) (kids : List PatT) (ka : Option Addr) (cap : Nat) (S : Nat → Prop) (w : World) (hkk : PatsAt w S ka kids) (hsf : Safe S Nix w.heap.size) (hn : nodeF (.mk 18 t n nm kids) = 0) (hl : (showF (.mk 18 t n nm kids) i).length ≤ big) (hkl : kids.length < 1000000000) (hih : ShIH S kids) (hi : ¬ i < 1) :
    ShOk (.mk 18 t n nm kids) i (.agg #[.int .i64 18, .string t, .int .i64 n, .string nm, .slice ka kids.length cap]) w := by
  obtain ⟨hk24, ht, hnn, hnm, _⟩ := node_facts hn
  unfold ShOk
  unfold big at hl
  have hs : showF (.mk 18 t n nm kids) i = joinG [32] true kids 0 := by rw [showF]; show parL (decide (i < 1)) _ = _; rw [decide_eq_false (by omega : ¬ i < 1)]; rfl
  rw [hs] at hl ⊢
  try simp only [List.length_append, List.length_cons, List.length_nil] at hl
  have e0 : ((i : Int) == 0) = false := by simp; omega
  have eb : big = 1000000000000 := rfl
  have HIH := Lib.hid hih
  clear ht hnn hnm hs hih
  have dT : decide (isTextK 18) = false := by decide
  have dN : decide (isNumK 18) = false := by decide
  have I00 := ShI.start (p := .mk 18 t n nm kids) (cap := cap) hkk hsf
  dsimp only [PatT.kind_mk, PatT.text_mk, PatT.n_mk, PatT.name_mk, PatT.kids_mk] at I00
  obtain ⟨w0, hw0⟩ : ∃ w0, w0 = (w.alloc (.cells #[.int .i64 18, .string t, .int .i64 n, .string nm, .slice ka kids.length cap] 24)) := ⟨_, rfl⟩
  rw [← hw0] at I00
  obtain ⟨c0, c1, c2, c3, c4, _⟩ := I00.five.cells
  dsimp only [PatT.kind_mk, PatT.text_mk, PatT.n_mk, PatT.name_mk, PatT.kids_mk] at c0 c1 c2 c3 c4
  have I0 := Lib.hid I00; have HW0 := Lib.hid hw0
  clear I00 hw0 hkk hsf hn
  go_enter Tryd.func17, Tryd.ntmps17
  go_upto_region 2 with fail
  rw [← HW0.out]
  go_wp2_with fail
  refine (texts_any 18 _).mono ?_
  rintro e w1 ⟨rfl, k_⟩
  have I1 := Lib.hid (I0.out.next k_)
  rw [dT]
  clear k_ c0 c1 c2 c3 c4
  obtain ⟨c0, c1, c2, c3, c4, _⟩ := I1.out.five.cells
  dsimp only [PatT.kind_mk, PatT.text_mk, PatT.n_mk, PatT.name_mk, PatT.kids_mk] at c0 c1 c2 c3 c4
  go_wp2_with fail
  refine (numbers_any 18 _).mono ?_
  rintro e w2 ⟨rfl, k_⟩
  have I2 := Lib.hid (I1.out.next k_)
  rw [dN]
  clear k_ c0 c1 c2 c3 c4
  obtain ⟨c0, c1, c2, c3, c4, _⟩ := I2.out.five.cells
  dsimp only [PatT.kind_mk, PatT.text_mk, PatT.n_mk, PatT.name_mk, PatT.kids_mk] at c0 c1 c2 c3 c4
  go_wp2_with fail
  go_loopw [5, 101] (fun v x wr => ∃ (j : Nat) (d : List UInt8), j ≤ kids.length ∧ x = .int .i64 j ∧ v = .string ⟨d.toArray⟩ ∧ Hid (d ++ joinG [32] (decide (j = 0)) (kids.drop j) 0 = joinG [32] true kids 0) ∧ Hid (ShI w.heap.size S (.mk 18 t n nm kids) ka cap w wr)) (fun _ x _ => kids.length - (intOf x).toNat)
  case atStart => exact ⟨0, [], Nat.zero_le _, rfl, rfl, by simp [Hid], I2⟩
  case round =>
    obtain ⟨j, d, hj, rfl, rfl, hd, I⟩ := hrel
    clear c0 c1 c2 c3 c4
    by_cases hlt : j < kids.length
    · have hlen := SpLoop.len hlt hd.out
      have hst := Lib.hid (joinG_step [32] kids 0 j hlt)
      obtain ⟨kb, ko, kc, kcap, hka, q0, q1, q2, q3, q4, hV⟩ := I.out.kid j hlt
      subst hka
      simp only [PatT.kids_mk] at q0 q1 q2 q3 q4 hV
      have kA : Kept Nix wr (wr.alloc (.cells #[.int .i64 kids[j].kind, .string kids[j].text, .int .i64 kids[j].n, .string kids[j].name, .slice kc kids[j].kids.length kcap] 24)) := (Kept.refl Nix wr).alloc _
      have HI1 := Lib.hid (I.out.next kA)
      have HV : Hid (PatV (wr.alloc (.cells #[.int .i64 kids[j].kind, .string kids[j].text, .int .i64 kids[j].n, .string kids[j].name, .slice kc kids[j].kids.length kcap] 24)) S (.agg #[.int .i64 kids[j].kind, .string kids[j].text, .int .i64 kids[j].n, .string kids[j].name, .slice kc kids[j].kids.length kcap]) kids[j]) := by
        obtain ⟨x1, x2, x3, x4, x5⟩ := hV
        exact ⟨x1, x2, x3, x4, x5.kept kA I.out.safe⟩
      have hC : Hid (ShOk kids[j] 0 (.agg #[.int .i64 kids[j].kind, .string kids[j].text, .int .i64 kids[j].n, .string kids[j].name, .slice kc kids[j].kids.length kcap]) (wr.alloc (.cells #[.int .i64 kids[j].kind, .string kids[j].text, .int .i64 kids[j].n, .string kids[j].name, .slice kc kids[j].kids.length kcap] 24))) := HIH.out j hlt _ 0 _ HV.out HI1.out.safe (by omega) (by unfold big; omega)
      have hsl : (showF kids[j] 0).length ≤ 1000000000000 := by omega
      have hdl : d.length ≤ 1000000000000 := by omega
      clear hV kA HV
      by_cases hj0 : j = 0
      · have y1 : decide ((0 : Int) < (j : Int)) = false := decide_eq_false (by omega)
        have y2 : decide (0 < j) = false := decide_eq_false (by omega)
        have stp : Hid ((d ++ showF kids[j] 0) ++ joinG [32] (decide (j + 1 = 0)) (kids.drop (j + 1)) 0 = joinG [32] true kids 0) := by
          unfold Hid; have := hd.out; rw [hst.out, if_pos hj0, List.nil_append] at this; rw [List.append_assoc]; exact this
        clear hj0 hst hd hlen
        go_wp2_with fail
        refine Calls.mono hC.out ?_
        rintro e w3 ⟨rfl, K3⟩
        have I3 := Lib.hid (HI1.out.next K3)
        have es : (⟨d.toArray⟩ : ByteArray) ++ ⟨(showF kids[j] 0).toArray⟩ = ⟨(d ++ showF kids[j] 0).toArray⟩ := app_str _ _
        have ES := Lib.hid es
        clear q0 q1 q2 q3 q4 hC K3 es
        go_wp2_with fail
        rw [ES.out]
        go_roundw
        case rel => exact ⟨j + 1, d ++ showF kids[j] 0, by omega, by go_num, rfl, stp, I3⟩
        case measure => simp [intOf]; omega
      · have y1 : decide ((0 : Int) < (j : Int)) = true := decide_eq_true (by omega)
        have y2 : decide (0 < j) = true := decide_eq_true (by omega)
        have stp : Hid ((d ++ ([32] ++ showF kids[j] 0)) ++ joinG [32] (decide (j + 1 = 0)) (kids.drop (j + 1)) 0 = joinG [32] true kids 0) := by
          unfold Hid; have := hd.out; rw [hst.out, if_neg hj0] at this; simpa [List.append_assoc] using this
        have es : (⟨d.toArray⟩ : ByteArray) ++ ⟨#[32]⟩ ++ ⟨(showF kids[j] 0).toArray⟩ = ⟨(d ++ ([32] ++ showF kids[j] 0)).toArray⟩ := by
          rw [show (⟨#[32]⟩ : ByteArray) = ⟨([32] : List UInt8).toArray⟩ from rfl, app_str, app_str, List.append_assoc]
        have ES := Lib.hid es
        clear hj0 hst hd hlen es
        go_wp2_with fail
        refine Calls.mono hC.out ?_
        rintro e w3 ⟨rfl, K3⟩
        have I3 := Lib.hid (HI1.out.next K3)
        clear q0 q1 q2 q3 q4 hC K3
        go_wp2_with fail
        rw [ES.out]
        go_roundw
        case rel => exact ⟨j + 1, d ++ ([32] ++ showF kids[j] 0), by omega, by go_num, rfl, stp, I3⟩
        case measure => simp [intOf]; omega
    · obtain rfl : j = kids.length := by omega
      have hd2 : d = joinG [32] true kids 0 := by have := hd.out; rw [List.drop_length] at this; simpa [joinG] using this
      subst hd2
      clear hd
      go_wp2_with fail
      go_ret
      exact ⟨rfl, I.out.base⟩

set_option maxRecDepth 100000 in
set_option maxHeartbeats 4000000 in
theorem show_catP (i : Nat) (t : ByteArray) (n : Int) (nm : ByteArray) (kids : List PatT) (ka : Option Addr) (cap : Nat) (S : Nat → Prop) (w : World) (hkk : PatsAt w S ka kids) (hsf : Safe S Nix w.heap.size) (hn : nodeF (.mk 18 t n nm kids) = 0) (hl : (showF (.mk 18 t n nm kids) i).length ≤ big) (hkl : kids.length < 1000000000) (hih : ShIH S kids) (hi : i < 1) :
    ShOk (.mk 18 t n nm kids) i (.agg #[.int .i64 18, .string t, .int .i64 n, .string nm, .slice ka kids.length cap]) w := by
  obtain ⟨hk24, ht, hnn, hnm, _⟩ := node_facts hn
  unfold ShOk
  unfold big at hl
  have hs : showF (.mk 18 t n nm kids) i = 40 :: (joinG [32] true kids 0 ++ [41]) := by rw [showF]; show parL (decide (i < 1)) _ = _; rw [decide_eq_true (by omega : i < 1)]; rfl
  rw [hs] at hl ⊢
  try simp only [List.length_append, List.length_cons, List.length_nil] at hl
  have e0 : ((i : Int) == 0) = true := by simp; omega
  have fin : Hid ((⟨#[40]⟩ : ByteArray) ++ ⟨(joinG [32] true kids 0).toArray⟩ ++ ⟨#[41]⟩ = ⟨(40 :: (joinG [32] true kids 0 ++ [41])).toArray⟩) := by
    unfold Hid; rw [show (⟨#[40]⟩ : ByteArray) = ⟨[40].toArray⟩ from rfl, show (⟨#[41]⟩ : ByteArray) = ⟨[41].toArray⟩ from rfl, app_str, app_str]; simp
  have eb : big = 1000000000000 := rfl
  have HIH := Lib.hid hih
  clear ht hnn hnm hs hih
  have dT : decide (isTextK 18) = false := by decide
  have dN : decide (isNumK 18) = false := by decide
  have I00 := ShI.start (p := .mk 18 t n nm kids) (cap := cap) hkk hsf
  dsimp only [PatT.kind_mk, PatT.text_mk, PatT.n_mk, PatT.name_mk, PatT.kids_mk] at I00
  obtain ⟨w0, hw0⟩ : ∃ w0, w0 = (w.alloc (.cells #[.int .i64 18, .string t, .int .i64 n, .string nm, .slice ka kids.length cap] 24)) := ⟨_, rfl⟩
  rw [← hw0] at I00
  obtain ⟨c0, c1, c2, c3, c4, _⟩ := I00.five.cells
  dsimp only [PatT.kind_mk, PatT.text_mk, PatT.n_mk, PatT.name_mk, PatT.kids_mk] at c0 c1 c2 c3 c4
  have I0 := Lib.hid I00; have HW0 := Lib.hid hw0
  clear I00 hw0 hkk hsf hn
  go_enter Tryd.func17, Tryd.ntmps17
  go_upto_region 2 with fail
  rw [← HW0.out]
  go_wp2_with fail
  refine (texts_any 18 _).mono ?_
  rintro e w1 ⟨rfl, k_⟩
  have I1 := Lib.hid (I0.out.next k_)
  rw [dT]
  clear k_ c0 c1 c2 c3 c4
  obtain ⟨c0, c1, c2, c3, c4, _⟩ := I1.out.five.cells
  dsimp only [PatT.kind_mk, PatT.text_mk, PatT.n_mk, PatT.name_mk, PatT.kids_mk] at c0 c1 c2 c3 c4
  go_wp2_with fail
  refine (numbers_any 18 _).mono ?_
  rintro e w2 ⟨rfl, k_⟩
  have I2 := Lib.hid (I1.out.next k_)
  rw [dN]
  clear k_ c0 c1 c2 c3 c4
  obtain ⟨c0, c1, c2, c3, c4, _⟩ := I2.out.five.cells
  dsimp only [PatT.kind_mk, PatT.text_mk, PatT.n_mk, PatT.name_mk, PatT.kids_mk] at c0 c1 c2 c3 c4
  go_wp2_with fail
  go_loopw [5, 101] (fun v x wr => ∃ (j : Nat) (d : List UInt8), j ≤ kids.length ∧ x = .int .i64 j ∧ v = .string ⟨d.toArray⟩ ∧ Hid (d ++ joinG [32] (decide (j = 0)) (kids.drop j) 0 = joinG [32] true kids 0) ∧ Hid (ShI w.heap.size S (.mk 18 t n nm kids) ka cap w wr)) (fun _ x _ => kids.length - (intOf x).toNat)
  case atStart => exact ⟨0, [], Nat.zero_le _, rfl, rfl, by simp [Hid], I2⟩
  case round =>
    obtain ⟨j, d, hj, rfl, rfl, hd, I⟩ := hrel
    clear c0 c1 c2 c3 c4
    by_cases hlt : j < kids.length
    · have hlen := SpLoop.len hlt hd.out
      have hst := Lib.hid (joinG_step [32] kids 0 j hlt)
      obtain ⟨kb, ko, kc, kcap, hka, q0, q1, q2, q3, q4, hV⟩ := I.out.kid j hlt
      subst hka
      simp only [PatT.kids_mk] at q0 q1 q2 q3 q4 hV
      have kA : Kept Nix wr (wr.alloc (.cells #[.int .i64 kids[j].kind, .string kids[j].text, .int .i64 kids[j].n, .string kids[j].name, .slice kc kids[j].kids.length kcap] 24)) := (Kept.refl Nix wr).alloc _
      have HI1 := Lib.hid (I.out.next kA)
      have HV : Hid (PatV (wr.alloc (.cells #[.int .i64 kids[j].kind, .string kids[j].text, .int .i64 kids[j].n, .string kids[j].name, .slice kc kids[j].kids.length kcap] 24)) S (.agg #[.int .i64 kids[j].kind, .string kids[j].text, .int .i64 kids[j].n, .string kids[j].name, .slice kc kids[j].kids.length kcap]) kids[j]) := by
        obtain ⟨x1, x2, x3, x4, x5⟩ := hV
        exact ⟨x1, x2, x3, x4, x5.kept kA I.out.safe⟩
      have hC : Hid (ShOk kids[j] 0 (.agg #[.int .i64 kids[j].kind, .string kids[j].text, .int .i64 kids[j].n, .string kids[j].name, .slice kc kids[j].kids.length kcap]) (wr.alloc (.cells #[.int .i64 kids[j].kind, .string kids[j].text, .int .i64 kids[j].n, .string kids[j].name, .slice kc kids[j].kids.length kcap] 24))) := HIH.out j hlt _ 0 _ HV.out HI1.out.safe (by omega) (by unfold big; omega)
      have hsl : (showF kids[j] 0).length ≤ 1000000000000 := by omega
      have hdl : d.length ≤ 1000000000000 := by omega
      clear hV kA HV
      by_cases hj0 : j = 0
      · have y1 : decide ((0 : Int) < (j : Int)) = false := decide_eq_false (by omega)
        have y2 : decide (0 < j) = false := decide_eq_false (by omega)
        have stp : Hid ((d ++ showF kids[j] 0) ++ joinG [32] (decide (j + 1 = 0)) (kids.drop (j + 1)) 0 = joinG [32] true kids 0) := by
          unfold Hid; have := hd.out; rw [hst.out, if_pos hj0, List.nil_append] at this; rw [List.append_assoc]; exact this
        clear hj0 hst hd hlen
        go_wp2_with fail
        refine Calls.mono hC.out ?_
        rintro e w3 ⟨rfl, K3⟩
        have I3 := Lib.hid (HI1.out.next K3)
        have es : (⟨d.toArray⟩ : ByteArray) ++ ⟨(showF kids[j] 0).toArray⟩ = ⟨(d ++ showF kids[j] 0).toArray⟩ := app_str _ _
        have ES := Lib.hid es
        clear q0 q1 q2 q3 q4 hC K3 es
        go_wp2_with fail
        rw [ES.out]
        go_roundw
        case rel => exact ⟨j + 1, d ++ showF kids[j] 0, by omega, by go_num, rfl, stp, I3⟩
        case measure => simp [intOf]; omega
      · have y1 : decide ((0 : Int) < (j : Int)) = true := decide_eq_true (by omega)
        have y2 : decide (0 < j) = true := decide_eq_true (by omega)
        have stp : Hid ((d ++ ([32] ++ showF kids[j] 0)) ++ joinG [32] (decide (j + 1 = 0)) (kids.drop (j + 1)) 0 = joinG [32] true kids 0) := by
          unfold Hid; have := hd.out; rw [hst.out, if_neg hj0] at this; simpa [List.append_assoc] using this
        have es : (⟨d.toArray⟩ : ByteArray) ++ ⟨#[32]⟩ ++ ⟨(showF kids[j] 0).toArray⟩ = ⟨(d ++ ([32] ++ showF kids[j] 0)).toArray⟩ := by
          rw [show (⟨#[32]⟩ : ByteArray) = ⟨([32] : List UInt8).toArray⟩ from rfl, app_str, app_str, List.append_assoc]
        have ES := Lib.hid es
        clear hj0 hst hd hlen es
        go_wp2_with fail
        refine Calls.mono hC.out ?_
        rintro e w3 ⟨rfl, K3⟩
        have I3 := Lib.hid (HI1.out.next K3)
        clear q0 q1 q2 q3 q4 hC K3
        go_wp2_with fail
        rw [ES.out]
        go_roundw
        case rel => exact ⟨j + 1, d ++ ([32] ++ showF kids[j] 0), by omega, by go_num, rfl, stp, I3⟩
        case measure => simp [intOf]; omega
    · obtain rfl : j = kids.length := by omega
      have hd2 : d = joinG [32] true kids 0 := by have := hd.out; rw [List.drop_length] at this; simpa [joinG] using this
      subst hd2
      clear hd
      go_wp2_with fail
      go_ret
      exact ⟨str_ret fin.out, I.out.base⟩
end Go.Proofs.YtdnglicgmlldlaaDoor
