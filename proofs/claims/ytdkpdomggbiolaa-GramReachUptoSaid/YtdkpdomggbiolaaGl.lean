/- GramReach: the law's walk, where both Lefts tell one thing. -/
import Derived.Test.YtdkpdomggbiolaaLf
import Derived.Test.YtdkpdomggbiolaaSame4
namespace Go.Proofs.Ytdkpdomggbiolaa
set_option linter.all false
open Go.RowKit

/-- An answer: a fault and an empty list, or the list with Rise of all that P holds of. -/
def TellQ (er : Int) (P : ByteArray → Prop) (w : World) (e : Ending) (w' : World) : Prop :=
  Kept Nix w w' ∧ ∃ L v, e = .returned (.tuple #[v, .int .i64 er]) ∧ StrsV w' (· < w'.heap.size) v L ∧ L.length ≤ 70000000 ∧ (er ≠ 0 → L = []) ∧ (er = 0 → Rise (L.map bytesOf) ∧ ∀ n, n ∈ L ↔ P n)
def reachE (l : List RuleT) (p : PatT) : Int := if wrongF p = 0 then rulesF l else wrongF p
theorem strs_none (w : World) (S : Nat → Prop) : StrsV w S (.slice none 0 0) [] := ⟨none, 0, rfl, fun h => absurd h (by decide)⟩
theorem tell_reach {l : List RuleT} {p : PatT} {w w' : World} {e : Ending} (h : GReachQ l p w e w') : TellQ (reachE l p) (Rc l p) w e w' := by
  obtain ⟨k, h1, h2, h3⟩ := h
  refine ⟨k, ?_⟩
  unfold reachE
  by_cases hw : wrongF p = 0
  · rw [if_pos hw]
    by_cases hr : rulesF l = 0
    · obtain ⟨L, v, he, hv, hL, hm⟩ := h3 hw hr
      refine ⟨L, v, by rw [he, hr], ?_, reach_len hw hr hL (fun n hn => (hm n).1 hn), fun h => absurd hr h, fun _ => ⟨hL, hm⟩⟩
      obtain ⟨a, cap, rfl, hl⟩ := hv
      exact ⟨a, cap, rfl, fun h0 => let ⟨b, o, e, hb, hc⟩ := hl h0; ⟨b, o, e, hb.2, hc⟩⟩
    · exact ⟨[], _, h2 hw hr, strs_none _ _, by simp, fun _ => rfl, fun h => absurd h hr⟩
  · rw [if_neg hw]
    exact ⟨[], _, h1 hw, strs_none _ _, by simp, fun _ => rfl, fun h => absurd h hw⟩
theorem tell_one {er : Int} {P : ByteArray → Prop} {L M : List ByteArray} (a1 : er ≠ 0 → L = []) (a2 : er = 0 → Rise (L.map bytesOf) ∧ ∀ n, n ∈ L ↔ P n) (b1 : er ≠ 0 → M = []) (b2 : er = 0 → Rise (M.map bytesOf) ∧ ∀ n, n ∈ M ↔ P n) : L = M := by
  by_cases h : er = 0
  · exact same_rise (a2 h).1 (b2 h).1 fun n => ((a2 h).2 n).trans ((b2 h).2 n).symm
  · rw [a1 h, b1 h]
theorem StrsV.on {w w' : World} {v : Value} {l : List ByteArray} (h : StrsV w (· < w.heap.size) v l) (hk : Kept Nix w w') : StrsV w' (· < w'.heap.size) v l := by
  obtain ⟨a, cap, rfl, hl⟩ := h
  exact ⟨a, cap, rfl, fun h0 => let ⟨b, o, e, hb, hc⟩ := hl h0; ⟨b, o, e, Nat.lt_of_lt_of_le hb hk.size, fun i hi => (hk.cell hb (fun h => h)).trans (hc i hi)⟩⟩
theorem same_on (L : List ByteArray) (v1 v2 : Value) (w : World) (h1 : StrsV w (· < w.heap.size) v1 L) (h2 : StrsV w (· < w.heap.size) v2 L) (hl : L.length ≤ 70000000) : Calls Try.prog 6 #[v1, v2] w (BoolQ true w) := by
  refine (sameTexts_any L L _ _ v1 v2 w h1 h2 (by omega) (by omega)).mono ?_
  rintro e w' ⟨rfl, n, rfl⟩
  exact ⟨by simp, rfl, rfl, rfl, Nat.le_refl _, fun _ _ _ => rfl⟩
open Classical in
/-- Which names may match nothing: the least of the closed. -/
noncomputable def nullM (l : List RuleT) (n : ByteArray) : Bool := decide (∀ m', ClosedM l m' → m' n = true)
open Classical in
theorem null_is {l : List RuleT} {a : ByteArray → Bool} (ha : UnderM l a) (hca : ClosedM l a) : a = nullM l := by
  funext n
  rw [Bool.eq_iff_iff]
  unfold nullM
  rw [decide_eq_true_eq]
  exact ⟨fun h m' hc => ha m' hc n h, fun h => h a hca⟩
/-- What Left tells. -/
def LeftQ (l : List RuleT) (w : World) (e : Ending) (w' : World) : Prop := TellQ (rulesF l) (LeftIs (nullM l) l) w e w'
set_option maxRecDepth 100000 in
set_option maxHeartbeats 2000000 in
theorem gram_walk (l : List RuleT) (p : PatT) (al : Option Addr) (cl : Nat) (v : Value) (w : World) (hl : RulesAt w (· < w.heap.size) al l) (hlen : l.length ≤ 1048576) (hcl : l.length ≤ cl) (hp : PatV w (· < w.heap.size) v p) (hsz : sizeT p ≤ 1048576)
    (hG : ∀ w', Kept Nix w w' → Calls Try.prog 7 #[.slice al l.length cl] w' (LeftQ l w'))
    (hR : ∀ w', Kept Nix w w' → Calls Try.prog 8 #[.slice al l.length cl] w' (LeftQ l w')) :
    Calls Try.prog 3 #[.slice al l.length cl, v] w (BoolQ true w) := by
  have HA : Hid (∀ wy, Kept Nix w wy → RulesAt wy (· < wy.heap.size) al l) := fun wy hk => hl.to hk (Safe.lt (Nat.le_refl _)) (fun _ h => Nat.lt_of_lt_of_le h hk.size)
  have HPV : Hid (∀ wy, Kept Nix w wy → PatV wy (· < wy.heap.size) v p) := fun wy hk => hp.kept' hk
  have HC1 : Hid (∀ wy, Kept Nix w wy → Calls Try.prog 4 #[.slice al l.length cl, v] wy (TellQ (reachE l p) (Rc l p) wy)) := fun wy hk => (gReach_any l p al cl v wy (HA.out wy hk) hlen hcl (HPV.out wy hk) hsz).mono fun e w' h => tell_reach h
  have HC2 : Hid (∀ wy, Kept Nix w wy → Calls Try.prog 5 #[.slice al l.length cl, v] wy (TellQ (reachE l p) (Rc l p) wy)) := fun wy hk => (refReach_any l p al cl v wy (HA.out wy hk) hlen hcl (HPV.out wy hk) hsz).mono fun e w' h => tell_reach h
  have HC3 : Hid (∀ wy, Kept Nix w wy → Calls Try.prog 7 #[.slice al l.length cl] wy (TellQ (rulesF l) (LeftIs (nullM l) l) wy)) := hG
  have HC4 : Hid (∀ wy, Kept Nix w wy → Calls Try.prog 8 #[.slice al l.length cl] wy (TellQ (rulesF l) (LeftIs (nullM l) l) wy)) := hR
  obtain ⟨ka, cap, rfl, hz, hk⟩ := hp
  obtain ⟨w0, hw0⟩ : ∃ w0, w0 = w.alloc (.cells #[.int .i64 p.kind, .string p.text, .int .i64 p.n, .string p.name, .slice ka p.kids.length cap] 25) := ⟨_, rfl⟩
  have K0 : Hid (Kept Nix w w0) := by rw [hw0]; exact (Kept.refl _ _).alloc _
  have B0 : Hid (Box5 w.heap.size (.int .i64 p.kind) (.string p.text) (.int .i64 p.n) (.string p.name) (.slice ka p.kids.length cap) w0) := by rw [hw0]; exact Box5.new ..
  have HW0 := Lib.hid hw0
  generalize reachE l p = er at *
  generalize rulesF l = el at *
  have c0 := B0.out.h0; have c1 := B0.out.h1; have c2 := B0.out.h2; have c3 := B0.out.h3; have c4 := B0.out.h4
  clear hl hz hk hG hR hw0
  go_enter Try.func3, Try.ntmps3
  go_upto_region 1 with fail
  rw [← HW0.out]
  clear HW0
  go_upto_region 2 with (go_at_call 4; refine (HC1.out _ K0.out).mono ?_; rintro e w1 ⟨k1, L1, v1, rfl, s1, n1, x1, y1⟩)
  have K1 := Lib.hid (K0.out.trans k1); have B1 := Lib.hid (B0.out.kept k1 (fun h => h)); have S1 := Lib.hid s1; have N1 := Lib.hid n1; have X1 := Lib.hid x1; have Y1 := Lib.hid y1
  clear k1 s1 n1 x1 y1 c0 c1 c2 c3 c4
  have c0 := B1.out.h0; have c1 := B1.out.h1; have c2 := B1.out.h2; have c3 := B1.out.h3; have c4 := B1.out.h4
  go_upto_region 3 with (go_at_call 5; refine (HC2.out _ K1.out).mono ?_; rintro e w2 ⟨k2, L2, v2, rfl, s2, n2, x2, y2⟩)
  obtain rfl : L1 = L2 := tell_one X1.out Y1.out x2 y2
  have K2 := Lib.hid (K1.out.trans k2); have S2 := Lib.hid s2; have S1' := Lib.hid (S1.out.on k2)
  clear k2 s2 n2 x2 y2 c0 c1 c2 c3 c4 S1 B1 B0
  have z1 : (er == er) = true := by simp
  go_cut [29] (fun c wx => c = .bool false ∧ Hid (Kept Nix w wx))
  case first =>
    go_wp2_with (go_at_call 6; refine (same_on L1 _ _ _ S1'.out S2.out N1.out).mono ?_; rintro e w3 ⟨rfl, k3_⟩; have K3 := Lib.hid (K2.out.trans k3_); clear k3_)
    go_meet
    exact ⟨rfl, K3⟩
  case rest =>
    obtain ⟨rfl, M⟩ := hcut
    clear K0 K1 K2 S1' S2 X1 Y1 N1
    go_upto_region 6 with (go_at_call 7; refine (HC3.out _ M.out).mono ?_; rintro e w4 ⟨k4, L4, v4, rfl, s4, n4, x4, y4⟩)
    have K4 := Lib.hid (M.out.trans k4); have S4 := Lib.hid s4; have N4 := Lib.hid n4; have X4 := Lib.hid x4; have Y4 := Lib.hid y4
    clear k4 s4 n4 x4 y4
    go_upto_region 7 with (go_at_call 8; refine (HC4.out _ K4.out).mono ?_; rintro e w5 ⟨k5, L5, v5, rfl, s5, n5, x5, y5⟩)
    obtain rfl : L4 = L5 := tell_one X4.out Y4.out x5 y5
    have K5 := Lib.hid (K4.out.trans k5); have S5 := Lib.hid s5; have S4' := Lib.hid (S4.out.on k5)
    clear k5 s5 n5 x5 y5
    have z2 : (el == el) = true := by simp
    go_wp2_with (go_at_call 6; refine (same_on L4 _ _ _ S4'.out S5.out N4.out).mono ?_; rintro e w6 ⟨rfl, k6_⟩; have K6 := Lib.hid (K5.out.trans k6_); clear k6_)
    go_ret
    exact ⟨rfl, K6.out⟩
end Go.Proofs.Ytdkpdomggbiolaa
