/- The reader of patterns: text. The tokens of a line, as plain functions of the text and the place. -/
import Derived.Test.YtlnhcgihpclpaaaGreatDoorLm4
namespace Go.Proofs.YtlnhcgihpclpaaaGreatDoor
set_option linter.all false
open Go.RowKit

/-- What stands behind a quote, up to the next one that is not twice, and how many bytes that is, that quote with it. -/
def txtL : List UInt8 → Option (List UInt8 × Nat)
  | [] => none
  | [c] => if c = 39 then some ([], 1) else none
  | c :: d :: r => if c = 39 then (if d = 39 then (txtL r).map fun x => (39 :: x.1, x.2 + 2) else some ([], 1)) else (txtL (d :: r)).map fun x => (c :: x.1, x.2 + 1)
def textR (s : ByteArray) (j : Nat) (bs : List UInt8) (k : Nat) : Option (List UInt8 × Nat) → Res (ByteArray × Nat)
  | none => .error (2, s.size)
  | some (b, n) => .ok ((⟨(bs ++ b).toArray⟩, j), k + n)
def textP (s : ByteArray) (i : Nat) : Res (ByteArray × Nat) :=
  match needP 39 s i with
  | .error e => .error e
  | .ok k => textR s (k - 1) [] k (txtL (s.data.toList.drop k))
theorem txt_end {s : ByteArray} {j k : Nat} {bs : List UInt8} (h : s.size ≤ k) : textR s j bs k (txtL (s.data.toList.drop k)) = .error (2, s.size) := by
  rw [drop_end h]; rfl
theorem txt_byte {s : ByteArray} {j k : Nat} {bs : List UInt8} (h : k < s.size) (hc : s[k].toNat ≠ 39) :
    textR s j bs k (txtL (s.data.toList.drop k)) = textR s j (bs ++ [s[k]]) (k + 1) (txtL (s.data.toList.drop (k + 1))) := by
  have hc' : ¬ s[k] = 39 := fun e => hc (by rw [e]; rfl)
  rw [drop_cons h]
  by_cases h2 : k + 1 < s.size
  · rw [drop_cons h2, txtL, if_neg hc']
    cases txtL (s[k + 1] :: s.data.toList.drop (k + 1 + 1)) with
    | none => rfl
    | some x => obtain ⟨b, n⟩ := x; simp only [Option.map, textR, List.append_assoc, List.singleton_append]; congr 2; omega
  · have e : txtL [s[k]] = none := by rw [txtL, if_neg hc']
    rw [drop_end (by omega), e]; rfl
theorem txt_twice {s : ByteArray} {j k : Nat} {bs : List UInt8} (h : k + 1 < s.size) (hc : s[k].toNat = 39) (hd : s[k + 1].toNat = 39) :
    textR s j bs k (txtL (s.data.toList.drop k)) = textR s j (bs ++ [s[k]]) (k + 2) (txtL (s.data.toList.drop (k + 2))) := by
  have hc' : s[k] = 39 := UInt8.toNat_inj.1 (by simpa using hc)
  have hd' : s[k + 1] = 39 := UInt8.toNat_inj.1 (by simpa using hd)
  rw [drop_cons (show k < s.size by omega), drop_cons h, txtL, if_pos hc', if_pos hd', hc']
  show textR s j bs k ((txtL (s.data.toList.drop (k + 2))).map _) = _
  cases txtL (s.data.toList.drop (k + 2)) with
  | none => rfl
  | some x => obtain ⟨b, n⟩ := x; simp only [Option.map, textR, List.append_assoc, List.singleton_append]; congr 2; omega
theorem txt_stop {s : ByteArray} {j k : Nat} {bs : List UInt8} (h : k < s.size) (hc : s[k].toNat = 39) (hd : ∀ (h : k + 1 < s.size), s[k + 1].toNat ≠ 39) :
    textR s j bs k (txtL (s.data.toList.drop k)) = .ok ((⟨bs.toArray⟩, j), k + 1) := by
  have hc' : s[k] = 39 := UInt8.toNat_inj.1 (by simpa using hc)
  rw [drop_cons h]
  by_cases h2 : k + 1 < s.size
  · have hd' : ¬ s[k + 1] = 39 := fun e => hd h2 (by rw [e]; rfl)
    rw [drop_cons h2, txtL, if_pos hc', if_neg hd']; simp [textR]
  · rw [drop_end (by omega), txtL, if_pos hc']; simp [textR]
theorem txtL_le : ∀ (l : List UInt8) (b : List UInt8) (n : Nat), txtL l = some (b, n) → n ≤ l.length ∧ b.length < n
  | [], b, n, h => by simp [txtL] at h
  | [c], b, n, h => by
    rw [txtL] at h; split at h
    · simp at h; obtain ⟨rfl, rfl⟩ := h; simp
    · cases h
  | c :: d :: r, b, n, h => by
    rw [txtL] at h; split at h
    · split at h
      · cases hr : txtL r with
        | none => rw [hr] at h; cases h
        | some x =>
          obtain ⟨b', n'⟩ := x
          rw [hr] at h; simp at h; obtain ⟨rfl, rfl⟩ := h
          have := txtL_le r b' n' hr
          simp only [List.length_cons]; omega
      · simp at h; obtain ⟨rfl, rfl⟩ := h; simp
    · cases hr : txtL (d :: r) with
      | none => rw [hr] at h; cases h
      | some x =>
        obtain ⟨b', n'⟩ := x
        rw [hr] at h; simp at h; obtain ⟨rfl, rfl⟩ := h
        have := txtL_le (d :: r) b' n' hr
        simp only [List.length_cons] at this ⊢; omega
theorem need_ok {c : Nat} {s : ByteArray} {i k : Nat} (h : needP c s i = .ok k) : i < k ∧ k ≤ s.size ∧ k = skip s i + 1 := by
  unfold needP at h
  split at h
  · rename_i hp
    simp only [Except.ok.injEq] at h; subst h
    have h1 := skip_ge s i
    have : skip s i < s.size := peek_lt (by omega)
    omega
  · cases h
theorem text_ok {s : ByteArray} {i k a : Nat} {x : ByteArray} (h : textP s i = .ok ((x, a), k)) : i < k ∧ k ≤ s.size ∧ x.size ≤ s.size ∧ a < s.size := by
  unfold textP at h
  cases hn : needP 39 s i with
  | error e => rw [hn] at h; cases h
  | ok j =>
    rw [hn] at h
    have h1 := need_ok hn
    dsimp only at h
    cases ht : txtL (s.data.toList.drop j) with
    | none => rw [ht] at h; cases h
    | some y =>
      obtain ⟨b, n⟩ := y
      rw [ht] at h
      simp only [textR, Except.ok.injEq, Prod.mk.injEq, List.nil_append] at h
      obtain ⟨⟨rfl, rfl⟩, rfl⟩ := h
      have h2 := txtL_le _ _ _ ht
      rw [List.length_drop] at h2
      have e : s.data.toList.length = s.size := rfl
      refine ⟨by omega, by omega, ?_, by omega⟩
      show b.toArray.size ≤ _
      simp; omega

set_option maxRecDepth 100000 in
set_option maxHeartbeats 4000000 in
theorem text_any (N W : Nat) (s : ByteArray) (i d : Nat) (w : World) (hr : Rdr N W s i d w) (hi : i ≤ s.size) (hs : s.size ≤ 1000000000) :
    Calls Tryz.prog 112 #[.pointer (some ⟨N, 0, none⟩)] w (RPost N W s d (textP s i) wordV w) := by
  have HR := Lib.hid hr
  have hN := hr.lt; have hW := hr.ltW; clear hr
  obtain ⟨i0, hi0, hz0, hz1, hz2⟩ := info_parts Tryz.infoB
  go_enter Tryz.func112, Tryz.ntmps112
  go_wp2_with fail
  refine (need_any 39 N W (by decide) s i d _ HR.out hi hs).mono ?_
  rintro e w1 ⟨K1, h⟩
  cases hn : needP 39 s i with
  | error er =>
    rw [hn] at h
    obtain rfl := h
    have e1 : textP s i = .error er := by unfold textP; rw [hn]
    have fin : Hid (∀ e, Threw er e → RPost N W s d (textP s i) wordV w e w1) := by intro e h; unfold RPost; rw [e1]; exact ⟨K1, h⟩
    clear hn e1
    go_wp2_with fail
    exact ⟨rfl, fin.out _ rfl⟩
  | ok k0 =>
    rw [hn] at h
    obtain ⟨rfl, R1⟩ := h
    obtain ⟨hk0, hk0s, hk0e⟩ := need_ok hn
    obtain ⟨j, rfl⟩ : ∃ j, k0 = j + 1 := ⟨skip s i, hk0e⟩
    have e1 : Hid (textP s i = textR s j [] (j + 1) (txtL (s.data.toList.drop (j + 1)))) := by unfold Hid textP; rw [hn]; rfl
    have q1 := R1.c1
    have R1' := Lib.hid R1; have K1' := Lib.hid K1
    have ej : ((j + 1 : Nat) : Int) - 1 = j := by omega
    have hsz := K1.size
    clear R1 K1 hn hk0e
    go_wp2_with fail
    go_loopg [5] (s.size - (j + 1)) (fun f v wr => ∃ (k : Nat) (bs : List UInt8) (a : Option Addr) (c : Nat), j + 1 ≤ k ∧ k ≤ s.size ∧ f = s.size - k ∧ bs.length ≤ k ∧ v = .slice a bs.length c ∧ Win wr w.heap.size 5 1 v bs.length (byteCs bs) ∧
      Hid (textP s i = textR s j bs k (txtL (s.data.toList.drop k))) ∧ Rdr N W s k d wr ∧ Kept (· = N) w wr)
    case atStart => exact ⟨j + 1, [], none, 0, Nat.le_refl _, hk0s, rfl, by simp, rfl, Win.nil _ _ _ _, e1, R1'.out, K1'.out⟩
    case round =>
      obtain ⟨k, bs, a, c, hk1, hk2, rfl, hbl, rfl, hW, htx, hR, hK⟩ := hrel
      clear e1
      have q0 := hR.c0; have q1 := hR.c1; have f1 := hR.fr 1
      have RR := Lib.hid hR; have KK := Lib.hid hK; have WW := Lib.hid hW
      clear hR hK R1' K1' hW
      by_cases hlt : k < s.size
      · have g1 : ((k : Int) == (s.size : Int)) = false := by simp; omega
        have bi : (k : Int) < (s.size : Int) := by omega
        by_cases hc : s[k].toNat = 39
        · have g2 : ((s[k].toNat : Int) == 39) = true := by simp; omega
          have hcv : ∀ (n m : Nat) (u : Value), (convert 123 9 (.slice a bs.length c)).run Tryz.prog (((wr.drewN n).setCell ⟨N, 1, none⟩ u).drewN m) = .ok (.string ⟨bs.toArray⟩) (((wr.drewN n).setCell ⟨N, 1, none⟩ u).drewN m) := fun n m u =>
            Win.conv (((WW.out.kept (Kept.drewN' _ n) (fun _ _ h => h)).setCell (p := ⟨N, 1, none⟩) (fun h => by have := (WW.out.lt N h).1; omega) u).kept (Kept.drewN' _ m) (fun _ _ h => h))
          obtain ⟨k1, ek1⟩ : ∃ k1 : Nat, k1 = k + 1 := ⟨_, rfl⟩
          have hk1e : (k : Int) + 1 = (k1 : Int) := by omega
          have hka : k1 ≤ k + 1 := by omega
          have hkb : k + 1 ≤ k1 := by omega
          by_cases hd : ∃ h : k + 1 < s.size, s[k + 1].toNat = 39
          · obtain ⟨h2, h3⟩ := hd
            have hl1 : k1 < s.size := by omega
            have h3' : s[k1].toNat = 39 := by simp only [ek1]; exact h3
            have g3 : ((k1 : Int) == (s.size : Int)) = false := by simp; omega
            have g4 : ((s[k1].toNat : Int) != 39) = false := by simp; omega
            have bi2 : (k1 : Int) < (s.size : Int) := by omega
            have htx2 : Hid (textP s i = textR s j (bs ++ [s[k]]) (k + 2) (txtL (s.data.toList.drop (k + 2)))) := htx.out.trans (txt_twice h2 hc h3)
            clear hc htx h3 hcv h3' ek1 h2
            go_wp2_with fail
            go_quiet (fail)
            revert nq; intro nq1
            go_wp2_with fail
            go_quiet (fail)
            revert nq; intro nq2
            go_wp2_with fail
            go_quiet (fail)
            revert nq; intro nq3
            have RP := Lib.hid ((((RR.out.drewN (nq1 + nq2)).setAt k1).drewN nq3).setAt (k1 + 1)); have KP := Lib.hid ((((KK.out.drewN (nq1 + nq2)).setCell (p := ⟨N, 1, none⟩) (.inl rfl) (.int .i64 (k1 : Int))).drewN nq3).setCell (p := ⟨N, 1, none⟩) (.inl rfl) (.int .i64 ((k1 + 1 : Nat) : Int)))
            have WP := Lib.hid ((((((WW.out.kept (Kept.drewN' _ (nq1 + nq2)) (fun _ _ h => h)).setCell (p := ⟨N, 1, none⟩) (fun h => by have := (WW.out.lt N h).1; omega) (.int .i64 (k1 : Int)))).kept (Kept.drewN' _ nq3) (fun _ _ h => h)).setCell (p := ⟨N, 1, none⟩) (fun h => by have := (WW.out.lt N h).1; omega) (.int .i64 ((k1 + 1 : Nat) : Int))).alloc (.cells #[.int .u8 (s[k].toNat : Int)] 5))
            have hbs : (bs ++ [s[k]]).length = bs.length + 1 := by simp
            have hcs : byteCs bs ++ [.int .u8 (s[k].toNat : Int)] = byteCs (bs ++ [s[k]]) := by simp [byteCs]
            have HBS := Lib.hid hbs; have HCS := Lib.hid hcs; clear hbs hcs
            go_wp2_with (at_builtin; go_loud (refine wpList_append_win _ rfl (.tmp 80) (.tmp 82) 123 123 rfl w.heap.size 5 i0 (.int .u8 0) 1 1 Tryz.underlying123 hi0 hz0 hz1 hz2 rfl (.slice a bs.length c) bs.length (byteCs bs) rfl WP.out _ 1 [.int .u8 (s[k].toNat : Int)] rfl (Src.ofSlice _ Tryz.underlying123 _ _ _ _ rfl (World.news_of_block (fr := (0, 0)) (cs := #[.int .u8 (s[k].toNat : Int)]) (heap_new2 (by simp))) (by intro u hu; simp at hu; subst hu; rfl)) (by unfold maxLen; omega) (by omega) (by have := KP.out.size; simp at this ⊢; omega) ?_); intro a3 c3 w3 hW3 hg3 ho3)
            rw [HCS.out] at hW3
            have hlow : ∀ g, (Value.slice a bs.length c).ownBlock = some g → w.heap.size ≤ g := fun g hg => (WW.out.lt g hg).1
            have K3 : Hid (Kept (· = N) w w3) := (KP.out.alloc _).grown hg3 fun x hx => .inr (hlow x hx)
            have R3 : Hid (Rdr N W s (k1 + 1) d w3) := RP.out.kept (((Kept.refl _ _).alloc _).grown (X := fun x => w.heap.size ≤ x) hg3 fun x hx => .inl (hlow x hx)) (by omega) (by omega)
            have W3 := Lib.hid hW3; have HTX : Hid (textP s i = textR s j (bs ++ [s[k]]) (k1 + 1) (txtL (s.data.toList.drop (k1 + 1)))) := by rw [show k1 + 1 = k + 2 by omega]; exact htx2.out
            clear hW3 hg3 ho3 hlow
            go_wp2_with fail
            go_roundg (s.size - (k1 + 1))
            case measure => omega
            case rel => exact ⟨k1 + 1, bs ++ [s[k]], a3, c3, by omega, by omega, rfl, by rw [HBS.out]; omega, by rw [HBS.out], by rw [HBS.out]; exact W3.out, HTX.out, R3.out, K3.out⟩
          · have fin : Hid (∀ w', Rdr N W s (k + 1) d w' → Kept (· = N) w w' → RPost N W s d (textP s i) wordV w (.returned (.tuple #[.string ⟨bs.toArray⟩, .int .i64 j])) w') := by
              intro w' h1 h2; unfold RPost; rw [htx.out, txt_stop hlt hc (fun h e => hd ⟨h, e⟩)]; exact ⟨h2, _, rfl, rfl, h1⟩
            have fin2 : Hid (∀ w', Rdr N W s k1 d w' → Kept (· = N) w w' → RPost N W s d (textP s i) wordV w (.returned (.tuple #[.string ⟨bs.toArray⟩, .int .i64 j])) w') := by rw [ek1]; exact fin
            have RP := Lib.hid (fun n m => ((RR.out.drewN n).setAt k1).drewN m); have KP := Lib.hid (fun n m => ((KK.out.drewN n).setCell (p := ⟨N, 1, none⟩) (.inl rfl) (.int .i64 (k1 : Int))).drewN m)
            by_cases h2 : k + 1 < s.size
            · have hl1 : k1 < s.size := by omega
              have h3' : s[k1].toNat ≠ 39 := by simp only [ek1]; exact fun e => hd ⟨h2, e⟩
              have g3 : ((k1 : Int) == (s.size : Int)) = false := by simp; omega
              have g4 : ((s[k1].toNat : Int) != 39) = true := by simp; omega
              have bi2 : (k1 : Int) < (s.size : Int) := by omega
              clear hc htx hd h3' ek1 h2
              go_wp2_with fail
              go_quiet (fail)
              revert nq; intro nq1
              go_wp2_with fail
              go_quiet (fail)
              revert nq; intro nq2
              go_wp2_with fail
              go_quiet (fail)
              go_wp2_with fail
              go_ret2
              exact fin2.out _ (RP.out _ _) (KP.out _ _)
            · have g3 : ((k1 : Int) == (s.size : Int)) = true := by simp; omega
              clear hc htx hd ek1
              go_wp2_with fail
              go_quiet (fail)
              revert nq; intro nq1
              go_wp2_with fail
              go_quiet (fail)
              revert nq; intro nq2
              go_wp2_with fail
              go_quiet (fail)
              go_wp2_with fail
              go_ret2
              exact fin2.out _ (RP.out _ _) (KP.out _ _)
        · have g2 : ((s[k].toNat : Int) == 39) = false := by simp; omega
          have htx2 : Hid (textP s i = textR s j (bs ++ [s[k]]) (k + 1) (txtL (s.data.toList.drop (k + 1)))) := htx.out.trans (txt_byte hlt hc)
          clear hc htx
          go_wp2_with fail
          go_quiet (fail)
          revert nq; intro nq1
          go_wp2_with fail
          go_quiet (fail)
          revert nq; intro nq2
          have RP := Lib.hid ((RR.out.drewN (nq1 + nq2)).setAt (k + 1)); have KP := Lib.hid ((KK.out.drewN (nq1 + nq2)).setCell (p := ⟨N, 1, none⟩) (.inl rfl) (.int .i64 ((k + 1 : Nat) : Int)))
          have WP := Lib.hid (((WW.out.kept (Kept.drewN' _ (nq1 + nq2)) (fun _ _ h => h)).setCell (p := ⟨N, 1, none⟩) (fun h => by have := (WW.out.lt N h).1; omega) (.int .i64 ((k + 1 : Nat) : Int))).alloc (.cells #[.int .u8 (s[k].toNat : Int)] 5))
          have hbs : (bs ++ [s[k]]).length = bs.length + 1 := by simp
          have hcs : byteCs bs ++ [.int .u8 (s[k].toNat : Int)] = byteCs (bs ++ [s[k]]) := by simp [byteCs]
          have HBS := Lib.hid hbs; have HCS := Lib.hid hcs; clear hbs hcs
          go_wp2_with (at_builtin; go_loud (refine wpList_append_win _ rfl (.tmp 80) (.tmp 82) 123 123 rfl w.heap.size 5 i0 (.int .u8 0) 1 1 Tryz.underlying123 hi0 hz0 hz1 hz2 rfl (.slice a bs.length c) bs.length (byteCs bs) rfl WP.out _ 1 [.int .u8 (s[k].toNat : Int)] rfl (Src.ofSlice _ Tryz.underlying123 _ _ _ _ rfl (World.news_of_block (fr := (0, 0)) (cs := #[.int .u8 (s[k].toNat : Int)]) (heap_new2 (by simp))) (by intro u hu; simp at hu; subst hu; rfl)) (by unfold maxLen; omega) (by omega) (by have := KP.out.size; simp at this ⊢; omega) ?_); intro a3 c3 w3 hW3 hg3 ho3)
          rw [HCS.out] at hW3
          have hlow : ∀ g, (Value.slice a bs.length c).ownBlock = some g → w.heap.size ≤ g := fun g hg => (WW.out.lt g hg).1
          have K3 : Hid (Kept (· = N) w w3) := (KP.out.alloc _).grown hg3 fun x hx => .inr (hlow x hx)
          have R3 : Hid (Rdr N W s (k + 1) d w3) := RP.out.kept (((Kept.refl _ _).alloc _).grown (X := fun x => w.heap.size ≤ x) hg3 fun x hx => .inl (hlow x hx)) (by omega) (by omega)
          have W3 := Lib.hid hW3; have HTX : Hid _ := htx2.out
          clear hW3 hg3 ho3 hlow
          go_wp2_with fail
          go_roundg (s.size - (k + 1))
          case measure => omega
          case rel => exact ⟨k + 1, bs ++ [s[k]], a3, c3, by omega, by omega, rfl, by rw [HBS.out]; omega, by rw [HBS.out], by rw [HBS.out]; exact W3.out, HTX.out, R3.out, K3.out⟩
      · have g1 : ((k : Int) == (s.size : Int)) = true := by simp; omega
        have e2 : Hid (textP s i = .error (2, k)) := by unfold Hid; rw [htx.out, txt_end (by omega)]; rw [show s.size = k by omega]
        have fin : Hid (∀ e w', Threw (2, k) e → Kept (· = N) w w' → RPost N W s d (textP s i) wordV w e w') := by intro e w' h h2; unfold RPost; rw [e2.out]; exact ⟨h2, h⟩
        go_wp2_with fail
        go_quiet (fail)
        go_wp2_with fail
        refine (fail_any _ 2 k _).mono ?_
        rintro e w2 ⟨rfl, rfl⟩
        go_wp2_with fail
        exact ⟨rfl, fin.out _ _ rfl (KK.out.drewN _)⟩
end Go.Proofs.YtlnhcgihpclpaaaGreatDoor

namespace Go.Proofs.YtlnhcgihpclpaaaGreatDoor
set_option linter.all false
open Go.RowKit

structure LTok where
  kind : Int
  text : ByteArray
  at_ : Nat
/-- How long the rest of a text in quotes is, from a place behind its first quote on. -/
def qAt (s : ByteArray) (i : Nat) : Option Nat := (txtL (s.data.toList.drop i)).map (·.2)
theorem q_end {s : ByteArray} {i : Nat} (h : s.size ≤ i) : qAt s i = none := by unfold qAt; rw [drop_end h]; rfl
theorem q_other {s : ByteArray} {i : Nat} (h : i < s.size) (hc : s[i].toNat ≠ 39) : qAt s i = (qAt s (i + 1)).map (· + 1) := by
  have hc' : ¬ s[i] = 39 := fun e => hc (by rw [e]; rfl)
  unfold qAt
  rw [drop_cons h]
  by_cases h2 : i + 1 < s.size
  · rw [drop_cons h2, txtL, if_neg hc']
    cases txtL (s[i + 1] :: s.data.toList.drop (i + 1 + 1)) <;> rfl
  · rw [drop_end (by omega)]
    have e : txtL [s[i]] = none := by rw [txtL, if_neg hc']
    rw [e]; rfl
theorem q_two {s : ByteArray} {i : Nat} (h : i + 1 < s.size) (hc : s[i].toNat = 39) (hd : s[i + 1].toNat = 39) : qAt s i = (qAt s (i + 2)).map (· + 2) := by
  have hc' : s[i] = 39 := UInt8.toNat_inj.1 hc
  have hd' : s[i + 1] = 39 := UInt8.toNat_inj.1 hd
  unfold qAt
  rw [drop_cons (show i < s.size by omega), drop_cons h, txtL, if_pos hc', if_pos hd']
  show ((txtL (s.data.toList.drop (i + 2))).map _).map _ = _
  cases txtL (s.data.toList.drop (i + 2)) <;> rfl
theorem q_one {s : ByteArray} {i : Nat} (h : i < s.size) (hc : s[i].toNat = 39) (hd : ¬ ∃ h : i + 1 < s.size, s[i + 1].toNat = 39) : qAt s i = some 1 := by
  have hc' : s[i] = 39 := UInt8.toNat_inj.1 hc
  unfold qAt
  rw [drop_cons h]
  by_cases h2 : i + 1 < s.size
  · have hd' : ¬ s[i + 1] = 39 := fun e => hd ⟨h2, by rw [e]; rfl⟩
    rw [drop_cons h2, txtL, if_pos hc', if_neg hd']; rfl
  · rw [drop_end (by omega), txtL, if_pos hc']; rfl
theorem q_le {s : ByteArray} {i n : Nat} (h : qAt s i = some n) : 0 < n ∧ i + n ≤ s.size := by
  unfold qAt at h
  cases ht : txtL (s.data.toList.drop i) with
  | none => rw [ht] at h; cases h
  | some x =>
    obtain ⟨b, m⟩ := x
    rw [ht] at h
    simp only [Option.map_some, Option.some.injEq] at h
    subst h
    have h1 := txtL_le _ _ _ ht
    rw [List.length_drop] at h1
    have e : s.data.toList.length = s.size := rfl
    omega
theorem extract_drop (s : ByteArray) (a : Nat) : (s.extract a s.size).data.toList = s.data.toList.drop a := by
  have e : s.data.size = s.size := rfl
  rw [ByteArray.data_extract, Array.toList_extract, List.extract_eq_drop_take]
  refine List.take_of_length_le ?_
  rw [List.length_drop, Array.length_toList]; omega
theorem q_extract (s : ByteArray) (a i : Nat) : qAt (s.extract a s.size) i = qAt s (a + i) := by
  unfold qAt; rw [extract_drop, List.drop_drop]
/-- How long the rest of a pattern in brackets is, from a place behind its first bracket on. -/
def bGo (s : ByteArray) : Nat → Nat → Option Nat
  | 0, _ => none
  | f + 1, i =>
    if h : i < s.size then
      if s[i].toNat = 93 then some 1
      else if s[i].toNat = 39 then
        match qAt s (i + 1) with
        | none => none
        | some n => (bGo s f (i + 1 + n)).map (· + (n + 1))
      else (bGo s f (i + 1)).map (· + 1)
    else none
theorem bGo_fuel {s : ByteArray} : ∀ (f g i : Nat), s.size - i ≤ f → s.size - i ≤ g → bGo s f i = bGo s g i
  | 0, 0, _, _, _ => rfl
  | 0, g + 1, i, h, _ => by rw [bGo, bGo, dif_neg (by omega)]
  | f + 1, 0, i, _, h => by rw [bGo, bGo, dif_neg (by omega)]
  | f + 1, g + 1, i, h1, h2 => by
    rw [bGo, bGo]
    split
    · split
      · rfl
      · split
        · cases hq : qAt s (i + 1) with
          | none => rfl
          | some n => dsimp only; rw [bGo_fuel f g _ (by omega) (by omega)]
        · rw [bGo_fuel f g _ (by omega) (by omega)]
    · rfl
def bAt (s : ByteArray) (i : Nat) : Option Nat := bGo s (s.size - i) i
theorem b_end {s : ByteArray} {i : Nat} (h : s.size ≤ i) : bAt s i = none := by
  unfold bAt; rw [show s.size - i = 0 by omega]; rfl
theorem b_step {s : ByteArray} {i : Nat} (h : i < s.size) : bAt s i = if s[i].toNat = 93 then some 1 else if s[i].toNat = 39 then (match qAt s (i + 1) with | none => none | some n => (bAt s (i + 1 + n)).map (· + (n + 1))) else (bAt s (i + 1)).map (· + 1) := by
  have e : s.size - i = (s.size - i - 1) + 1 := by omega
  unfold bAt
  rw [e, bGo, dif_pos h]
  split
  · rfl
  · split
    · cases hq : qAt s (i + 1) with
      | none => rfl
      | some n => dsimp only; rw [bGo_fuel _ (s.size - (i + 1 + n)) _ (by omega) (Nat.le_refl _)]
    · rw [bGo_fuel _ (s.size - (i + 1)) _ (by omega) (Nat.le_refl _)]
theorem b_le {s : ByteArray} : ∀ (m i n : Nat), s.size - i ≤ m → bAt s i = some n → 0 < n ∧ i + n ≤ s.size
  | m, i, n, hm, h => by
    by_cases hi : i < s.size
    · rw [b_step hi] at h
      split at h
      · simp only [Option.some.injEq] at h; omega
      · cases m with
        | zero => omega
        | succ m =>
          split at h
          · cases hq : qAt s (i + 1) with
            | none => rw [hq] at h; cases h
            | some k =>
              rw [hq] at h
              dsimp only at h
              have hk := q_le hq
              cases hb : bAt s (i + 1 + k) with
              | none => rw [hb] at h; cases h
              | some x =>
                rw [hb] at h
                simp only [Option.map_some, Option.some.injEq] at h
                have := b_le m (i + 1 + k) x (by omega) hb
                omega
          · cases hb : bAt s (i + 1) with
            | none => rw [hb] at h; cases h
            | some x =>
              rw [hb] at h
              simp only [Option.map_some, Option.some.injEq] at h
              have := b_le m (i + 1) x (by omega) hb
              omega
    · rw [b_end (by omega)] at h; cases h
theorem extract_at {s : ByteArray} {a i : Nat} (h : a + i < s.size) (h' : i < (s.extract a s.size).size) : (s.extract a s.size)[i] = s[a + i] := by
  have e1 : (s.extract a s.size)[i] = (s.extract a s.size).data.toList[i]'(by simpa using h') := by rw [Array.getElem_toList]; rfl
  have e2 : s[a + i] = s.data.toList[a + i]'(by simpa using h) := by rw [Array.getElem_toList]; rfl
  rw [e1, e2]
  simp only [extract_drop, List.getElem_drop]
theorem extract_size' (s : ByteArray) (a : Nat) : (s.extract a s.size).size = s.size - a := by
  have h := congrArg List.length (extract_drop s a)
  rw [List.length_drop] at h
  exact h
theorem b_extract (s : ByteArray) (a : Nat) : ∀ (m i : Nat), s.size - (a + i) ≤ m → bAt (s.extract a s.size) i = bAt s (a + i) := by
  have hz := extract_size' s a
  intro m
  induction m with
  | zero => intro i h; rw [b_end (by omega), b_end (by omega)]
  | succ m ih =>
    intro i h
    by_cases hi : a + i < s.size
    · have hi' : i < (s.extract a s.size).size := by omega
      rw [b_step hi, b_step hi', extract_at hi hi', q_extract]
      split
      · rfl
      · split
        · cases hq : qAt s (a + (i + 1)) with
          | none => rfl
          | some n =>
            show (bAt (s.extract a s.size) (i + 1 + n)).map _ = (bAt s (a + i + 1 + n)).map _
            rw [ih (i + 1 + n) (by omega), show a + (i + 1 + n) = a + i + 1 + n by omega]
        · rw [ih (i + 1) (by omega), show a + (i + 1) = a + i + 1 by omega]
    · rw [b_end (by omega), b_end (by omega)]

def signL : List Nat := [61, 63, 38, 43, 45, 42, 47, 37, 40, 41, 60, 62, 44, 58, 36]
inductive LStep where
  | blank
  | tok (t : LTok) (next : Nat)
  | bad (er : Er)
def lexStep (s : ByteArray) (i : Nat) (h : i < s.size) : LStep :=
  if s[i].toNat = 32 then .blank
  else if 65 ≤ s[i].toNat ∧ s[i].toNat ≤ 90 then .tok ⟨1, s.extract i (runEnd isW s i), i⟩ (runEnd isW s i)
  else if 48 ≤ s[i].toNat ∧ s[i].toNat ≤ 57 then .tok ⟨2, s.extract i (runEnd digitN s i), i⟩ (runEnd digitN s i)
  else if s[i].toNat = 39 then
    match txtL (s.data.toList.drop (i + 1)) with
    | none => .bad (2, s.size)
    | some (b, n) => .tok ⟨3, ⟨b.toArray⟩, i⟩ (i + 1 + n)
  else if s[i].toNat = 91 then
    match bAt s (i + 1) with
    | none => .bad (2, s.size)
    | some n => .tok ⟨4, s.extract (i + 1) (i + n), i⟩ (i + 1 + n)
  else if s[i].toNat = 58 ∧ peek s (i + 1) = 61 then .tok ⟨5, s.extract i (i + 2), i⟩ (i + 2)
  else if s[i].toNat ∈ signL then .tok ⟨5, s.extract i (i + 1), i⟩ (i + 1)
  else .bad (2, i)
def lexGo (s : ByteArray) : Nat → Nat → List LTok → Except Er (List LTok)
  | 0, _, out => .ok out
  | f + 1, i, out =>
    if h : i < s.size then
      match lexStep s i h with
      | .blank => lexGo s f (i + 1) out
      | .tok t k => lexGo s f k (out ++ [t])
      | .bad er => .error er
    else .ok out
theorem digitN_eq (c : UInt8) : digitN c = (decide (48 ≤ c.toNat) && decide (c.toNat ≤ 57)) := by
  rw [Bool.eq_iff_iff]; simp [digitN]
theorem lexStep_next {s : ByteArray} {i : Nat} {h : i < s.size} {t : LTok} {k : Nat} (e : lexStep s i h = .tok t k) : i < k ∧ k ≤ s.size ∧ t.at_ = i ∧ t.text.size ≤ s.size := by
  have hx : ∀ a b : Nat, (s.extract a b).size ≤ s.size := by
    intro a b
    rw [ByteArray.size_extract]; omega
  unfold lexStep at e
  split at e
  · cases e
  split at e
  · rename_i h1
    simp only [LStep.tok.injEq] at e
    obtain ⟨rfl, rfl⟩ := e
    have hw : isW s[i] = true := by rw [isW_eq]; simp; omega
    have h2 := run_ge isW s (i + 1); have h3 := run_le (f := isW) (show i ≤ s.size by omega)
    rw [run_yes h hw] at h3 ⊢
    exact ⟨by omega, h3, rfl, hx _ _⟩
  split at e
  · rename_i h1
    simp only [LStep.tok.injEq] at e
    obtain ⟨rfl, rfl⟩ := e
    have hw : digitN s[i] = true := by rw [digitN_eq]; simp; omega
    have h2 := run_ge digitN s (i + 1); have h3 := run_le (f := digitN) (show i ≤ s.size by omega)
    rw [run_yes h hw] at h3 ⊢
    exact ⟨by omega, h3, rfl, hx _ _⟩
  split at e
  · cases ht : txtL (s.data.toList.drop (i + 1)) with
    | none => rw [ht] at e; cases e
    | some x =>
      obtain ⟨b, n⟩ := x
      rw [ht] at e
      simp only [LStep.tok.injEq] at e
      obtain ⟨rfl, rfl⟩ := e
      have h1 := txtL_le _ _ _ ht
      rw [List.length_drop] at h1
      have e0 : s.data.toList.length = s.size := rfl
      have e1 : (⟨b.toArray⟩ : ByteArray).size = b.length := by show b.toArray.size = _; simp
      exact ⟨by omega, by omega, rfl, by rw [e1]; omega⟩
  split at e
  · cases hb : bAt s (i + 1) with
    | none => rw [hb] at e; cases e
    | some n =>
      rw [hb] at e
      simp only [LStep.tok.injEq] at e
      obtain ⟨rfl, rfl⟩ := e
      have := b_le _ _ _ (Nat.le_refl _) hb
      exact ⟨by omega, by omega, rfl, hx _ _⟩
  split at e
  · rename_i h1
    simp only [LStep.tok.injEq] at e
    obtain ⟨rfl, rfl⟩ := e
    have : i + 1 < s.size := peek_lt (by omega)
    exact ⟨by omega, by omega, rfl, hx _ _⟩
  split at e
  · simp only [LStep.tok.injEq] at e
    obtain ⟨rfl, rfl⟩ := e
    exact ⟨by omega, by omega, rfl, hx _ _⟩
  · cases e
theorem lexGo_fuel {s : ByteArray} : ∀ (f g i : Nat) (out : List LTok), s.size - i ≤ f → s.size - i ≤ g → lexGo s f i out = lexGo s g i out
  | 0, 0, _, _, _, _ => rfl
  | 0, g + 1, i, out, h, _ => by rw [lexGo, lexGo, dif_neg (by omega)]
  | f + 1, 0, i, out, _, h => by rw [lexGo, lexGo, dif_neg (by omega)]
  | f + 1, g + 1, i, out, h1, h2 => by
    rw [lexGo, lexGo]
    split
    · rename_i hi
      cases hs : lexStep s i hi with
      | blank => dsimp only; rw [lexGo_fuel f g _ _ (by omega) (by omega)]
      | tok t k => have := lexStep_next hs; dsimp only; rw [lexGo_fuel f g _ _ (by omega) (by omega)]
      | bad er => rfl
    · rfl
/-- From a place on, with what there is. -/
def lexA (s : ByteArray) (i : Nat) (out : List LTok) : Except Er (List LTok) := lexGo s (s.size - i) i out
theorem lexA_end {s : ByteArray} {i : Nat} {out : List LTok} (h : s.size ≤ i) : lexA s i out = .ok out := by
  unfold lexA; rw [show s.size - i = 0 by omega]; rfl
theorem lexA_step {s : ByteArray} {i : Nat} (out : List LTok) (h : i < s.size) : lexA s i out = match lexStep s i h with | .blank => lexA s (i + 1) out | .tok t k => lexA s k (out ++ [t]) | .bad er => .error er := by
  have e : s.size - i = (s.size - i - 1) + 1 := by omega
  unfold lexA
  rw [e, lexGo, dif_pos h]
  cases hs : lexStep s i h with
  | blank => dsimp only; rw [lexGo_fuel _ (s.size - (i + 1)) _ _ (by omega) (Nat.le_refl _)]
  | tok t k => have := lexStep_next hs; dsimp only; rw [lexGo_fuel _ (s.size - k) _ _ (by omega) (Nat.le_refl _)]
  | bad er => rfl
/-- A line's tokens. -/
def lexF (s : ByteArray) : Except Er (List LTok) := if 2000 < s.size then .error (4, 0) else lexA s 0 []
/-- A token's three cells. -/
def ltC (t : LTok) : List Value := [.int .i64 t.kind, .string t.text, .int .i64 t.at_]
def ltsC (l : List LTok) : List Value := l.flatMap ltC
theorem ltsC_append (a b : List LTok) : ltsC (a ++ b) = ltsC a ++ ltsC b := by unfold ltsC; rw [List.flatMap_append]
theorem ltsC_one (t : LTok) : ltsC [t] = ltC t := by simp [ltsC]
end Go.Proofs.YtlnhcgihpclpaaaGreatDoor
