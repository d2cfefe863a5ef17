/- The document's Reach: its walk. -/
import Derived.Test.YtdkpdomggbiolaaGrc
import Derived.Test.YtdkpdomggbiolaaPut8
namespace Go.Proofs.Ytdkpdomggbiolaa
set_option linter.all false
open Go.RowKit

def FindQ (l : List RuleT) (al : Option Addr) (n : ByteArray) (w : World) (e : Ending) (w' : World) : Prop :=
  w' = w ∧ ((findR l n = -1 ∧ e = .returned (.pointer none)) ∨ ∃ (k b o : Nat), findR l n = (k : Int) ∧ k < l.length ∧ al = some ⟨b, o, none⟩ ∧ e = .returned (.pointer (some ⟨b, o + k * 6, none⟩)))
set_option maxRecDepth 100000 in
set_option maxHeartbeats 2000000 in
theorem find_any (l : List RuleT) (al : Option Addr) (cl : Nat) (n : ByteArray) (S : Nat → Prop) (w : World) (hl : RulesAt w S al l) (hlen : l.length ≤ 1048576) :
    Calls Try.prog 20 #[.slice al l.length cl, .string n] w (FindQ l al n w) := by
  have HL := Lib.hid hl
  clear hl
  go_enter Try.func20, Try.ntmps20
  go_wp2_with fail
  go_loopw [8] (fun i wr => ∃ j : Nat, j ≤ l.length ∧ i = .int .i64 j ∧ Hid (findR l n = findGo n j (l.drop j)) ∧ wr = w) (fun i _ => l.length - (intOf i).toNat)
  case atStart => exact ⟨0, Nat.zero_le _, rfl, by unfold Hid findR; rw [List.drop_zero], rfl⟩
  case round =>
    obtain ⟨j, hj, rfl, hno, rfl⟩ := hrel
    by_cases hlt : j < l.length
    · obtain ⟨b, o, rfl, hc⟩ := HL.out (by omega)
      have q0 := (hc j hlt).cells.1
      have hd := findGo_drop n l j hlt
      clear hc
      generalize l[j] = r at *
      by_cases he : r.name = n
      · rw [if_pos he] at hd
        have fin := Lib.hid (hno.out.trans hd)
        have e1 : (r.name.toList == n.toList) = true := by rw [beqD]; exact decide_eq_true he
        clear hd he hno
        go_wp2_with fail
        go_ret
        exact ⟨rfl, .inr ⟨j, b, o, fin.out, hlt, rfl, rfl⟩⟩
      · rw [if_neg he] at hd
        have step := Lib.hid (hno.out.trans hd)
        have e1 : (r.name.toList == n.toList) = false := by rw [beqD]; exact decide_eq_false he
        clear hd he hno
        go_wp2_with fail
        go_roundw
        case rel => exact ⟨j + 1, by omega, by go_num, step, by trivial⟩
        case measure => simp [intOf]; omega
    · obtain rfl : j = l.length := by omega
      have fin : Hid (findR l n = -1) := by unfold Hid; rw [hno.out, List.drop_length, findGo]
      go_wp2_with fail
      go_ret
      exact ⟨rfl, .inl ⟨fin.out, rfl⟩⟩
structure GdP (l : List RuleT) (p : PatT) (L : List ByteArray) : Prop where
  rise : Rise (L.map bytesOf)
  sound : ∀ n ∈ L, Rc l p n
  first : ∀ n ∈ callsP p, n ∈ L
theorem GdP.put {l : List RuleT} {p : PatT} {L : List ByteArray} (h : GdP l p L) {n : ByteArray} (hn : Rc l p n) : GdP l p (putL L n) := by
  obtain ⟨h1, h2⟩ := putL_law L n h.rise
  exact ⟨h1, fun m hm => ((h2 m).1 hm).elim (h.sound m) (fun e => by rw [e]; exact hn), fun m hm => (h2 m).2 (.inl (h.first m hm))⟩
theorem GdP.len {l : List RuleT} {p : PatT} {L : List ByteArray} (h : GdP l p L) : L.length ≤ (allCalls l p).length := nodup_len L _ (rise_nodup h.rise) fun x hx => rc_all (h.sound x hx)
theorem more_no {L : List ByteArray} {n : ByteArray} (h : moreF L n = false) : n ∈ L ∧ putL L n = L := by
  unfold moreF at h
  have h1 : L[ahead L n]? = some n := by simpa using h
  obtain ⟨h2, h3⟩ := List.getElem?_eq_some_iff.1 h1
  exact ⟨h3 ▸ List.getElem_mem h2, by unfold putL; rw [if_pos h1]⟩
theorem more_yes {L : List ByteArray} {n : ByteArray} (h : moreF L n = true) : (putL L n).length = L.length + 1 := by
  unfold moreF at h
  have h1 : ¬ L[ahead L n]? = some n := by simpa using h
  have := ahead_le L n
  unfold putL; rw [if_neg h1]
  simp; omega
theorem callNames_take (Y : List PatT) (m : Nat) (h : m < Y.length) : callNames (Y.take (m + 1)) = callNames (Y.take m) ++ (if Y[m].kind = 24 then [Y[m].name] else []) := by
  rw [List.take_succ_eq_append_getElem h]
  unfold callNames
  rw [List.filter_append, List.map_append]
  by_cases hk : Y[m].kind = 24
  · rw [if_pos hk]; simp [hk]
  · rw [if_neg hk]; simp [hk]
/-- A round under way. -/
structure Gd3 (l : List RuleT) (p : PatT) (L : List ByteArray) (j : Nat) (b : Bool) (L2 : List ByteArray) : Prop where
  gd : GdP l p L2
  grow : L.length + (if b = true then 1 else 0) ≤ L2.length
  same : b = false → L2 = L
  done : b = false → ∀ j' (h : j' < L.length), j' < j → ∀ r ∈ l, r.name = L[j'] → ∀ n ∈ callsP r.pat, n ∈ L
  sub : ∀ n ∈ L, n ∈ L2
theorem Gd3.put {l : List RuleT} {p : PatT} {L : List ByteArray} {j : Nat} {b : Bool} {L2 : List ByteArray} (h : Gd3 l p L j b L2) {n : ByteArray} (hn : Rc l p n) (hm : moreF L2 n = true) : Gd3 l p L j true (putL L2 n) :=
  ⟨h.gd.put hn, by rw [more_yes hm, if_pos rfl]; have := h.grow; split at this <;> omega, fun h => (by cases h), fun h => (by cases h), fun m hx => ((putL_law L2 n h.gd.rise).2 m).2 (.inl (h.sub m hx))⟩
theorem Gd3.next {l : List RuleT} {p : PatT} {L : List ByteArray} {j : Nat} {b : Bool} {L2 : List ByteArray} (h : Gd3 l p L j b L2) (hd : b = false → ∀ (hj : j < L.length), ∀ r ∈ l, r.name = L[j] → ∀ n ∈ callsP r.pat, n ∈ L) : Gd3 l p L (j + 1) b L2 :=
  ⟨h.gd, h.grow, h.same, fun hb j' hj hjj => by
    rcases Nat.lt_or_ge j' j with h1 | h1
    · exact h.done hb j' hj h1
    · obtain rfl : j' = j := by omega
      exact hd hb hj, h.sub⟩

theorem putV_strs {w : World} {S : Nat → Prop} {v : Value} {L : List ByteArray} (h : PutV w S v L) : StrsV w S v L := by
  rcases h with ⟨rfl, rfl⟩ | ⟨h0, b, o, cap, rfl, _, _, hb, hc⟩
  · exact ⟨none, 0, rfl, fun h => absurd h (by simp)⟩
  · exact ⟨_, cap, rfl, fun _ => ⟨b, o, rfl, hb, hc⟩⟩
set_option maxRecDepth 100000 in
set_option maxHeartbeats 8000000 in
theorem refReach_any (l : List RuleT) (p : PatT) (al : Option Addr) (cl : Nat) (v : Value) (w : World) (hl : RulesAt w (· < w.heap.size) al l) (hlen : l.length ≤ 1048576) (hcl : l.length ≤ cl) (hp : PatV w (· < w.heap.size) v p) (hsz : sizeT p ≤ 1048576) :
    Calls Try.prog 5 #[.slice al l.length cl, v] w (GReachQ l p w) := by
  have HA : Hid (∀ wy, Kept Nix w wy → RulesAt wy (· < w.heap.size) al l) := fun wy hk => hl.to hk (Safe.lt (Nat.le_refl _)) (fun _ h => h)
  have HAw : Hid (∀ wy, Kept Nix w wy → RulesAt wy (· < wy.heap.size) al l) := fun wy hk => hl.to hk (Safe.lt (Nat.le_refl _)) (fun _ h => Nat.lt_of_lt_of_le h hk.size)
  have HPV : Hid (∀ wy, Kept Nix w wy → PatV wy (· < wy.heap.size) v p) := fun wy hk => hp.kept' hk
  obtain ⟨ka, cap, rfl, hz, hks⟩ := hp
  obtain ⟨w1, hw1⟩ : ∃ w1, w1 = w.alloc (.cells #[.int .i64 p.kind, .string p.text, .int .i64 p.n, .string p.name, .slice ka p.kids.length cap] 25) := ⟨_, rfl⟩
  have B1 : Hid (Box5 w.heap.size (.int .i64 p.kind) (.string p.text) (.int .i64 p.n) (.string p.name) (.slice ka p.kids.length cap) w1) := by rw [hw1]; exact Box5.new ..
  have K1 : Hid (Kept Nix w w1) := by rw [hw1]; exact (Kept.refl _ _).alloc _
  have HW1 := Lib.hid hw1
  have hsz' : sizeT p ≤ 100000000 := by omega
  have HWR : Hid (∀ wy, Kept Nix w wy → Calls Try.prog 16 #[.agg #[.int .i64 p.kind, .string p.text, .int .i64 p.n, .string p.name, .slice ka p.kids.length cap]] wy (IntQ (wrongF p) wy)) := fun wy hk => by
    have h := refWrong_any p _ (· < wy.heap.size) wy hsz' (HPV.out wy hk) (Safe.lt (Nat.le_refl _))
    rw [← wrong_same5] at h; exact h
  clear hl hw1 hks hz
  obtain ⟨b0, b1, b2, b3, b4⟩ : _ ∧ _ ∧ _ ∧ _ ∧ _ := ⟨B1.out.h0, B1.out.h1, B1.out.h2, B1.out.h3, B1.out.h4⟩
  by_cases hw0 : wrongF p = 0
  rotate_left
  · have z1 : (wrongF p != 0) = true := by simpa using hw0
    have HW0 := Lib.hid hw0
    clear hw0
    go_enter Try.func5, Try.ntmps5
    go_upto_region 1 with fail
    rw [← HW1.out]
    go_wp2_with (go_at_call 16; (refine (HWR.out w1 K1.out).mono ?_); rintro e w2 ⟨rfl, k2_⟩; have K2 := Lib.hid (K1.out.trans k2_); clear k2_)
    go_ret2
    exact ⟨K2.out, fun _ => rfl, fun h => absurd h HW0.out, fun h => absurd h HW0.out⟩
  have HW0 := Lib.hid hw0
  clear hw0
  by_cases hr0 : rulesF l = 0
  rotate_left
  · have z1 : (rulesF l != 0) = true := by simpa using hr0
    have HR0 := Lib.hid hr0
    clear hr0
    go_enter Try.func5, Try.ntmps5
    go_upto_region 1 with fail
    rw [← HW1.out]
    go_wp2_with (first
      | (go_at_call 16; (refine (HWR.out w1 K1.out).mono ?_); rintro e w2 ⟨rfl, k2_⟩; rw [HW0.out]; have K2 := Lib.hid (K1.out.trans k2_); clear k2_)
      | (go_at_call 17; (refine (refRules_any l al cl w2 (HAw.out w2 K2.out) hlen hcl).mono ?_); rintro e w3 ⟨rfl, k3_⟩; have K3 := Lib.hid (K2.out.trans k3_); clear k3_))
    go_ret2
    exact ⟨K3.out, fun h => absurd HW0.out h, fun _ _ => rfl, fun _ h => absurd h HR0.out⟩
  have HR0 := Lib.hid hr0
  clear hr0
  have hU : Hid ((allCalls l p).length ≤ 70000000) := by
    have h64 := (rules_right HR0.out).1
    have := allCalls_len (l := l) hsz (fun r hr => by
      obtain ⟨k, hk, rfl⟩ := List.mem_iff_getElem.1 hr
      obtain ⟨b, o, _, hc⟩ := (HA.out w (Kept.refl _ _)) (by omega)
      exact (hc k hk).2.2.1)
    unfold Hid; omega
  go_enter Try.func5, Try.ntmps5
  go_upto_region 1 with fail
  rw [← HW1.out]
  go_upto_region 9 with (first
    | (go_at_call 16; (refine (HWR.out w1 K1.out).mono ?_); rintro e w2 ⟨rfl, k2_⟩; rw [HW0.out]; have K12 := Lib.hid k2_; have K2 := Lib.hid (K1.out.trans k2_); clear k2_)
    | (go_at_call 17; (refine (refRules_any l al cl w2 (HAw.out w2 K2.out) hlen hcl).mono ?_); rintro e w3 ⟨rfl, k3_⟩; rw [HR0.out]; have K13 := Lib.hid (K12.out.trans k3_); have K3 := Lib.hid (K2.out.trans k3_); have B3 := B1.out.kept K13.out (fun h => h); have c0 := B3.h0; have c1 := B3.h1; have c2 := B3.h2; have c3 := B3.h3; have c4 := B3.h4; clear k3_ B3)
    | (go_at_call 18; (refine (All_any 100000000 p _ (· < w3.heap.size) w3 hsz' (Nat.le_refl _) (HPV.out w3 K3.out) (Safe.lt (Nat.le_refl _))).mono ?_); rintro e w4 ⟨v4, rfl, ⟨cs, hW, hR⟩, k4_⟩; have hlen4 := Lib.hid (allT_length p); obtain ⟨gx, ox, cp, rfl, hgx, hgx2, hat⟩ := hW.row5 hR (by rw [hlen4.out]; exact sizeT_pos _); have AT := Lib.hid hat; have hgx' := Lib.hid (And.intro hgx hgx2); have K4 := Lib.hid (K3.out.trans k4_); have h34 := Lib.hid k4_.size; clear k4_ hW hR hat hgx hgx2))
  have hyl : (allT p).length ≤ 1048576 := by rw [hlen4.out]; exact hsz
  have S4 : Hid (Safe (fun b => b < w3.heap.size ∨ b = gx) Nix w4.heap.size) := fun b hb => by
    rcases hb with hb | rfl
    · exact ⟨Nat.lt_of_lt_of_le hb h34.out, fun h => h⟩
    · exact ⟨hgx'.out.2, fun h => h⟩
  have hcallsP : Hid (callsP p = callNames (allT p)) := rfl
  generalize allT p = Y at *
  clear hlen4 c0 c1 c2 c3 c4 b0 b1 b2 b3 b4
  go_loopw [8, 32] (fun t i wr => ∃ (j : Nat) (L : List ByteArray), j ≤ Y.length ∧ i = .int .i64 j ∧ Hid (L = (callNames (Y.take j)).foldl putL []) ∧ L.length ≤ j ∧ PutV wr (fun b => w.heap.size ≤ b ∧ b < wr.heap.size) t L ∧ Kept Nix w4 wr) (fun _ i _ => Y.length - (intOf i).toNat)
  case atStart => exact ⟨0, [], Nat.zero_le _, rfl, by unfold Hid; rw [List.take_zero]; rfl, by simp, .inl ⟨rfl, rfl⟩, Kept.refl _ _⟩
  case round =>
    obtain ⟨j, L, hj, rfl, hL, hLj, hV, hk⟩ := hrel
    have HV := Lib.hid hV; have KR := Lib.hid hk
    obtain ⟨a, c, rfl⟩ := hV.shape
    clear hV hk
    by_cases hlt : j < Y.length
    · obtain ⟨_, hz2, p0, p1, p2, p3, ka2, cap2, p4, -⟩ := ((AT.out j hlt).kept KR.out S4.out).open
      have htk := callNames_take Y j hlt
      have hbase : Hid (w.heap.size ≤ wr.heap.size) := by have := K4.out.size; have := KR.out.size; unfold Hid; omega
      generalize Y[j] = y at *
      obtain ⟨w5, hw5⟩ : ∃ w5, w5 = wr.alloc (.cells #[.int .i64 y.kind, .string y.text, .int .i64 y.n, .string y.name, .slice ka2 y.kids.length cap2] 25) := ⟨_, rfl⟩
      have BX : Hid (Box5 wr.heap.size (.int .i64 y.kind) (.string y.text) (.int .i64 y.n) (.string y.name) (.slice ka2 y.kids.length cap2) w5) := by rw [hw5]; exact Box5.new ..
      have KY : Hid (Kept Nix wr w5) := by rw [hw5]; exact (Kept.refl _ _).alloc _
      have HW5 := Lib.hid hw5
      clear hw5
      go_upto_region 11 with fail
      rw [← HW5.out]
      clear HW5 p0 p1 p2 p3 p4
      have r0 := BX.out.h0; have r3 := BX.out.h3
      by_cases h24 : y.kind = 24
      · have z1 : (y.kind == 24) = true := by simpa using h24
        rw [if_pos h24] at htk
        have step : Hid (putL L y.name = (callNames (Y.take (j + 1))).foldl putL []) := by unfold Hid; rw [htk, List.foldl_append, ← hL.out]; rfl
        have hpl := Lib.hid (putL_length L y.name)
        have hB5 : w.heap.size ≤ w5.heap.size := by have := hbase.out; have := KY.out.size; omega
        clear h24 htk
        go_wp2_with (go_at_call 19; (refine (put8_any L y.name _ w.heap.size w5 hB5 (HV.out.mono KY.out) (by omega)).mono ?_); rintro e w6 ⟨v6, rfl, hV6, k6_⟩; have V6 := Lib.hid hV6; have K6 := Lib.hid ((KR.out.trans KY.out).trans k6_); clear hV6 k6_)
        go_roundw
        case rel => exact ⟨j + 1, putL L y.name, by omega, by go_num, step, by have := hpl.out; omega, V6.out, K6.out⟩
        case measure => simp [intOf]; omega
      · have z1 : (y.kind == 24) = false := by simpa using h24
        rw [if_neg h24, List.append_nil] at htk
        have step : Hid (L = (callNames (Y.take (j + 1))).foldl putL []) := by unfold Hid; rw [htk]; exact hL.out
        clear h24 htk
        go_wp2_with fail
        go_roundw
        case rel => exact ⟨j + 1, L, by omega, by go_num, step, by omega, HV.out.mono KY.out, KR.out.trans KY.out⟩
        case measure => simp [intOf]; omega
    · obtain rfl : j = Y.length := by omega
      have hgd : Hid (GdP l p L) := by
        have h1 := foldPut (callNames Y) [] (by unfold Rise; simp)
        have e : L = (callNames Y).foldl putL [] := by rw [hL.out, List.take_length]
        rw [← e] at h1
        exact ⟨h1.1, fun n hn => .here n (by rw [hcallsP.out]; exact ((h1.2 n).1 hn).resolve_left (by simp)), fun n hn => (h1.2 n).2 (.inr (by rw [hcallsP.out] at hn; exact hn))⟩
      have K0 : Hid (Kept Nix w wr) := K4.out.trans KR.out
      go_upto_region 15 with fail
      obtain ⟨w5, hw5⟩ : ∃ x, x = wr := ⟨_, rfl⟩
      rw [← hw5] at HV K0 ⊢
      clear hw5 hL KR
      have HGD0 := Lib.hid hgd
      clear hgd
      go_loopg [8, 11] (2 * ((allCalls l p).length - L.length) + 1) (fun f t bv wr => ∃ (L : List ByteArray) (b : Bool), bv = .bool b ∧ PutV wr (fun b => w.heap.size ≤ b ∧ b < wr.heap.size) t L ∧ Hid (GdP l p L) ∧ Hid (b = false → ∀ m ∈ L, ∀ r ∈ l, r.name = m → ∀ n ∈ callsP r.pat, n ∈ L) ∧ Hid (f = 2 * ((allCalls l p).length - L.length) + (if b = true then 1 else 0)) ∧ Kept Nix w wr)
      case atStart => exact ⟨L, true, rfl, HV.out, HGD0.out, fun h => (by cases h), rfl, K0.out⟩
      case round =>
        clear HGD0 HV K0
        obtain ⟨L, b, rfl, hV, hgd, hcl2, hf, hk⟩ := hrel
        have HV := Lib.hid hV; have KR := Lib.hid hk
        obtain ⟨a, c, rfl⟩ := hV.shape
        clear hV hk
        cases b with
        | false =>
          have hiff : Hid (∀ n, n ∈ L ↔ Rc l p n) := rc_iff hgd.out.first (hcl2.out rfl) hgd.out.sound
          go_wp2_with fail
          go_ret2
          exact ⟨KR.out, fun h => absurd HW0.out h, fun _ h => absurd HR0.out h, fun _ _ => ⟨L, _, rfl, putV_strs HV.out, hgd.out.rise, hiff.out⟩⟩
        | true =>
          have hLU : L.length ≤ 70000000 := by have := hgd.out.len; have := hU.out; omega
          go_upto_region 18 with fail
          obtain ⟨w7, hw7⟩ : ∃ x, x = wr := ⟨_, rfl⟩
          rw [← hw7] at HV KR ⊢
          clear hw7
          go_loopw [8, 11, 50] (fun t bv i wr => ∃ (L2 : List ByteArray) (b2 : Bool) (j : Nat), bv = .bool b2 ∧ i = .int .i64 j ∧ j ≤ L.length ∧ PutV wr (fun b => w.heap.size ≤ b ∧ b < wr.heap.size) t L2 ∧ Hid (Gd3 l p L j b2 L2) ∧ Kept Nix w7 wr) (fun _ _ i _ => L.length - (intOf i).toNat)
          case atStart => exact ⟨L, false, 0, rfl, rfl, Nat.zero_le _, HV.out, ⟨hgd.out, by simp, fun _ => rfl, fun _ _ _ h => by omega, fun _ h => h⟩, Kept.refl _ _⟩
          case round =>
            obtain ⟨L2, b2, j, rfl, rfl, hj, hV2, hJ, hk2⟩ := hrel
            have HV2 := Lib.hid hV2; have KJ := Lib.hid hk2
            have K0J : Hid (Kept Nix w wr) := KR.out.trans hk2
            obtain ⟨a2, c2, rfl⟩ := hV2.shape
            clear hV2 hk2
            by_cases hlt : j < L.length
            rotate_left
            · obtain rfl : j = L.length := by omega
              have hm2 := hJ.out.gd.len
              cases b2 with
              | true =>
                have hmeas : Hid (2 * ((allCalls l p).length - L2.length) + 1 < gk) := by have h1 := hf.out; have h2 := hJ.out.grow; simp at h1 h2; unfold Hid; omega
                have hg2 := Lib.hid hJ.out.gd
                clear hJ hf hm2
                go_wp2_with fail
                go_roundg (2 * ((allCalls l p).length - L2.length) + 1)
                case measure => exact hmeas.out
                case rel => exact ⟨L2, true, rfl, HV2.out, hg2, fun h => (by cases h), rfl, K0J.out⟩
              | false =>
                have hmeas : Hid (2 * ((allCalls l p).length - L2.length) < gk) := by have h1 := hf.out; have h2 := hJ.out.same rfl; rw [h2]; simp at h1; unfold Hid; omega
                have hg2 := Lib.hid hJ.out.gd
                have hcl3 : Hid (∀ m ∈ L2, ∀ r ∈ l, r.name = m → ∀ n ∈ callsP r.pat, n ∈ L2) := by
                  intro m hm r hr he n hn
                  rw [hJ.out.same rfl] at hm ⊢
                  obtain ⟨j', hj', rfl⟩ := List.mem_iff_getElem.1 hm
                  exact hJ.out.done rfl j' hj' hj' r hr he n hn
                clear hJ hf hm2
                go_wp2_with fail
                go_roundg (2 * ((allCalls l p).length - L2.length))
                case measure => exact hmeas.out
                case rel => exact ⟨L2, false, rfl, HV2.out, hg2, fun _ => hcl3.out, rfl, K0J.out⟩
            · rcases (HV.out.mono KJ.out) with ⟨rfl, _⟩ | ⟨_, gb, ob, cb, hv0, hcb, _, ⟨_, _⟩, hcc⟩
              · simp at hlt
              simp only [Value.slice.injEq, true_and] at hv0
              obtain ⟨rfl, rfl⟩ := hv0
              have x1 := hcc j hlt
              obtain ⟨x, hx⟩ : ∃ x, x = L[j] := ⟨_, rfl⟩
              rw [← hx] at x1
              have HX := Lib.hid hx
              have HFI := Lib.hid (find_any l al cl x (· < w.heap.size) wr (HA.out wr K0J.out) hlen)
              have HLT := Lib.hid hlt
              clear hcc hx
              rcases findR_at l x with ⟨hm1, hnone⟩ | ⟨k, hk, hkl, hkn⟩
              · have step : Hid (Gd3 l p L (j + 1) b2 L2) := hJ.out.next fun _ _ r hr he => absurd (he.trans HX.out.symm) (hnone r hr)
                have HM1 := Lib.hid hm1
                clear hnone hm1 hJ
                go_wp2_with (go_at_call 20; (refine HFI.out.mono ?_); rintro e w' ⟨hw_, hfq⟩; obtain rfl := hw_.symm; obtain rfl : e = .returned (.pointer none) := (by rcases hfq with ⟨_, h⟩ | ⟨k2, _, _, h, _⟩; exact h; exact absurd h (by rw [HM1.out]; omega)); clear hfq)
                go_roundw
                case rel => exact ⟨L2, b2, j + 1, rfl, by go_num, by have := HLT.out; omega, HV2.out, step, KJ.out⟩
                case measure => have := HLT.out; simp [intOf]; omega
              · obtain ⟨r, hr⟩ : ∃ r, r = l[k] := ⟨_, rfl⟩
                have hrn : Hid (r.name = x) := by unfold Hid; rw [hr]; exact hkn
                have hrm : Hid (r ∈ l) := by rw [hr]; exact List.getElem_mem hkl
                have HR := Lib.hid hr; have HK := Lib.hid hk
                clear hk hr hkn
                obtain ⟨b, o, rfl, hc⟩ := (HAw.out wr K0J.out) (by omega)
                have hrk := hc k hkl
                rw [← HR.out] at hrk
                obtain ⟨-, p1, p2, p3, p4, ka2, cap2, p5, hks2⟩ := hrk.cells
                obtain ⟨-, -, hsz2, -, hpat2⟩ := hrk
                have HPV2 : Hid (PatV wr (· < wr.heap.size) (.agg #[.int .i64 r.pat.kind, .string r.pat.text, .int .i64 r.pat.n, .string r.pat.name, .slice ka2 r.pat.kids.length cap2]) r.pat) := ⟨ka2, cap2, rfl, hpat2.open.2.1, hks2⟩
                have hsz3 : sizeT r.pat ≤ 100000000 := by omega
                have HS2 := Lib.hid hsz2
                clear hc hpat2 hks2
                go_upto_region 23 with (first
                  | (go_at_call 20; (refine HFI.out.mono ?_); rintro e w' ⟨hw_, hfq⟩; obtain rfl := hw_.symm; obtain rfl : e = .returned (.pointer (some ⟨b, o + k * 6, none⟩)) := (by rcases hfq with ⟨h, _⟩ | ⟨k2, b', o', h, _, hbo, h3⟩; exact absurd h (by rw [HK.out]; omega); (rw [HK.out] at h; simp only [Option.some.injEq, Addr.mk.injEq, and_true] at hbo; obtain ⟨rfl, rfl⟩ := hbo; obtain rfl : k = k2 := (by omega); exact h3)); clear hfq)
                  | (go_at_call 18; (refine (All_any 100000000 r.pat _ (· < wr.heap.size) wr hsz3 (Nat.le_refl _) HPV2.out (Safe.lt (Nat.le_refl _))).mono ?_); rintro e w9 ⟨v9, rfl, ⟨cs9, hW9, hR9⟩, k9_⟩; have hlen9 := Lib.hid (allT_length r.pat); obtain ⟨gy, oy, cy, rfl, hgy, hgy2, hat9⟩ := hW9.row5 hR9 (by rw [hlen9.out]; exact sizeT_pos _); have AT9 := Lib.hid hat9; have hgy' := Lib.hid (And.intro hgy hgy2); have K9 := Lib.hid k9_; clear k9_ hW9 hR9 hat9 hgy hgy2))
                have hyl9 : (allT r.pat).length ≤ 1048576 := by rw [hlen9.out]; exact HS2.out
                have S9 : Hid (Safe (fun b => b < wr.heap.size ∨ b = gy) Nix w9.heap.size) := fun b hb => by
                  rcases hb with hb | rfl
                  · exact ⟨Nat.lt_of_lt_of_le hb K9.out.size, fun h => h⟩
                  · exact ⟨hgy'.out.2, fun h => h⟩
                have hcP : Hid (callsP r.pat = callNames (allT r.pat)) := rfl
                generalize allT r.pat = Y9 at *
                have K09 : Hid (Kept Nix w w9) := K0J.out.trans K9.out
                have KJ9 : Hid (Kept Nix w7 w9) := KJ.out.trans K9.out
                have HV9 := Lib.hid (HV2.out.mono K9.out)
                have hxL : Hid (x ∈ L) := by unfold Hid; rw [HX.out]; exact List.getElem_mem hlt
                clear p1 p2 p3 p4 p5 x1 HFI
                go_loopw [8, 11, 65] (fun t bv i wr => ∃ (L3 : List ByteArray) (b3 : Bool) (m : Nat), bv = .bool b3 ∧ i = .int .i64 m ∧ m ≤ Y9.length ∧ PutV wr (fun b => w.heap.size ≤ b ∧ b < wr.heap.size) t L3 ∧ Hid (Gd3 l p L j b3 L3) ∧ Hid (b3 = false → ∀ n ∈ callNames (Y9.take m), n ∈ L) ∧ Kept Nix w9 wr) (fun _ _ i _ => Y9.length - (intOf i).toNat)
                case atStart => exact ⟨L2, b2, 0, rfl, rfl, Nat.zero_le _, HV9.out, hJ, fun _ n hn => by simp [callNames] at hn, Kept.refl _ _⟩
                case round =>
                  obtain ⟨L3, b3, m, rfl, rfl, hm, hV3, hJ3, hC3, hk3⟩ := hrel
                  have HV3 := Lib.hid hV3; have K3m := Lib.hid hk3
                  obtain ⟨a3, c3, rfl⟩ := hV3.shape
                  have K03 : Hid (Kept Nix w wr) := K09.out.trans hk3
                  have hL3U : L3.length ≤ 70000000 := by have := hJ3.out.gd.len; have := hU.out; omega
                  clear hV3 hk3
                  by_cases hlm : m < Y9.length
                  · obtain ⟨_, hz3, p0, p1, p2, p3, ka3, cap3, p4, -⟩ := ((AT9.out m hlm).kept K3m.out S9.out).open
                    have htk := callNames_take Y9 m hlm
                    have hymem : Hid (Y9[m].kind = 24 → Y9[m].name ∈ callsP r.pat) := fun h => by
                      rw [hcP.out]; unfold callNames
                      exact List.mem_map.2 ⟨Y9[m], List.mem_filter.2 ⟨List.getElem_mem hlm, by simpa using h⟩, rfl⟩
                    generalize Y9[m] = y at *
                    obtain ⟨w10, hw10⟩ : ∃ w10, w10 = wr.alloc (.cells #[.int .i64 y.kind, .string y.text, .int .i64 y.n, .string y.name, .slice ka3 y.kids.length cap3] 25) := ⟨_, rfl⟩
                    have BX : Hid (Box5 wr.heap.size (.int .i64 y.kind) (.string y.text) (.int .i64 y.n) (.string y.name) (.slice ka3 y.kids.length cap3) w10) := by rw [hw10]; exact Box5.new ..
                    have KY : Hid (Kept Nix wr w10) := by rw [hw10]; exact (Kept.refl _ _).alloc _
                    have HW10 := Lib.hid hw10
                    clear hw10
                    go_upto_region 25 with fail
                    rw [← HW10.out]
                    clear HW10 p0 p1 p2 p3 p4
                    have r0 := BX.out.h0; have r3 := BX.out.h3
                    by_cases h24 : y.kind = 24
                    rotate_left
                    · have z1 : (y.kind == 24) = false := by simpa using h24
                      rw [if_neg h24, List.append_nil] at htk
                      have step : Hid (b3 = false → ∀ n ∈ callNames (Y9.take (m + 1)), n ∈ L) := by rw [htk]; exact hC3.out
                      clear h24 htk
                      go_wp2_with fail
                      go_roundw
                      case rel => exact ⟨L3, b3, m + 1, rfl, by go_num, by omega, HV3.out.mono KY.out, hJ3, step, K3m.out.trans KY.out⟩
                      case measure => simp [intOf]; omega
                    have z1 : (y.kind == 24) = true := by simpa using h24
                    have hyc : Hid (Rc l p y.name) := .there x r y.name (hgd.out.sound x hxL.out) hrm.out hrn.out (hymem.out h24)
                    rw [if_pos h24] at htk
                    have hB5 : w.heap.size ≤ w10.heap.size := by have := K03.out.size; have := KY.out.size; omega
                    have HPU := Lib.hid (put8_any L3 y.name _ w.heap.size w10 hB5 (HV3.out.mono KY.out) (by omega))
                    clear h24 hymem
                    cases hmo : moreF L3 y.name with
                    | true =>
                      have hJ4 := Lib.hid (hJ3.out.put hyc.out hmo)
                      have HMO := Lib.hid hmo
                      clear hmo htk
                      go_wp2_with (go_at_call 19; (refine HPU.out.mono ?_); rintro e w11 ⟨v11, rfl, hV11, k11_⟩; rw [HMO.out]; have V11 := Lib.hid hV11; have K11 := Lib.hid ((K3m.out.trans KY.out).trans k11_); clear hV11 k11_)
                      go_roundw
                      case rel => exact ⟨putL L3 y.name, true, m + 1, rfl, by go_num, by omega, V11.out, hJ4, fun h => (by cases h), K11.out⟩
                      case measure => simp [intOf]; omega
                    | false =>
                      have hno := more_no hmo
                      have step : Hid (b3 = false → ∀ n ∈ callNames (Y9.take (m + 1)), n ∈ L) := fun hb n hn => by
                        rw [htk] at hn
                        rcases List.mem_append.1 hn with h | h
                        · exact hC3.out hb n h
                        · rw [List.mem_singleton.1 h, ← hJ3.out.same hb]; exact hno.1
                      have HMO := Lib.hid hmo
                      clear hmo htk hno
                      go_wp2_with (go_at_call 19; (refine HPU.out.mono ?_); rintro e w11 ⟨v11, rfl, hV11, k11_⟩; rw [HMO.out]; have V11 := Lib.hid hV11; have KV11 := Lib.hid (HV3.out.mono (KY.out.trans k11_)); have K11 := Lib.hid ((K3m.out.trans KY.out).trans k11_); clear hV11 k11_)
                      go_roundw
                      case rel => exact ⟨L3, b3, m + 1, rfl, by go_num, by omega, KV11.out, hJ3, step, K11.out⟩
                      case measure => simp [intOf]; omega
                  · obtain rfl : m = Y9.length := by omega
                    have step : Hid (Gd3 l p L (j + 1) b3 L3) := hJ3.out.next fun hb hj2 q hq he n hn => by
                      have : q = r := name_unique (rules_right HR0.out).2.2 hq hrm.out (by rw [he, hrn.out, HX.out])
                      subst this
                      rw [hcP.out] at hn
                      exact hC3.out hb n (by rw [List.take_length]; exact hn)
                    clear hJ3 hC3
                    go_wp2_with fail
                    go_roundw
                    case rel => exact ⟨L3, b3, j + 1, rfl, by go_num, by have := HLT.out; omega, HV3.out, step, KJ9.out.trans K3m.out⟩
                    case measure => have := HLT.out; simp [intOf]; omega
end Go.Proofs.Ytdkpdomggbiolaa
