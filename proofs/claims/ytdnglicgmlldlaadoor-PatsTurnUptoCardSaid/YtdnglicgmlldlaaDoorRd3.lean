/- The reader of patterns: text. -/
import Derived.Test.YtdnglicgmlldlaaDoorRd2
import Derived.Test.YtdnglicgmlldlaaDoorWin
namespace Go.Proofs.YtdnglicgmlldlaaDoor
open Go.RowKit

/-- What stands behind a quote, up to the next one that is not twice, and how many bytes that is, that quote with it. -/
def txtL : List UInt8 → Option (List UInt8 × Nat)
  | [] => none
  | [c] => if c = 39 then some ([], 1) else none
  | c :: d :: r => if c = 39 then (if d = 39 then (txtL r).map fun x => (39 :: x.1, x.2 + 2) else some ([], 1)) else (txtL (d :: r)).map fun x => (c :: x.1, x.2 + 1)
def textR (s : ByteArray) (j : Nat) (bs : List UInt8) (k : Nat) : Option (List UInt8 × Nat) → Res (ByteArray × Nat)
  | none => .error (2, s.size)
  | some (b, n) => .ok ((⟨(bs ++ b).toArray⟩, j), k + n)
def textP (s : ByteArray) (i : Nat) : Res (ByteArray × Nat) :=
  match needP 39 s i with
  | .error e => .error e
  | .ok k => textR s (k - 1) [] k (txtL (s.data.toList.drop k))
theorem txt_end {s : ByteArray} {j k : Nat} {bs : List UInt8} (h : s.size ≤ k) : textR s j bs k (txtL (s.data.toList.drop k)) = .error (2, s.size) := by
  rw [drop_end h]; rfl
theorem txt_byte {s : ByteArray} {j k : Nat} {bs : List UInt8} (h : k < s.size) (hc : s[k].toNat ≠ 39) :
    textR s j bs k (txtL (s.data.toList.drop k)) = textR s j (bs ++ [s[k]]) (k + 1) (txtL (s.data.toList.drop (k + 1))) := by
  have hc' : ¬ s[k] = 39 := fun e => hc (by rw [e]; rfl)
  rw [drop_cons h]
  by_cases h2 : k + 1 < s.size
  · rw [drop_cons h2, txtL, if_neg hc']
    cases txtL (s[k + 1] :: s.data.toList.drop (k + 1 + 1)) with
    | none => rfl
    | some x => obtain ⟨b, n⟩ := x; simp only [Option.map, textR, List.append_assoc, List.singleton_append]; congr 2; omega
  · have e : txtL [s[k]] = none := by rw [txtL, if_neg hc']
    rw [drop_end (by omega), e]; rfl
theorem txt_twice {s : ByteArray} {j k : Nat} {bs : List UInt8} (h : k + 1 < s.size) (hc : s[k].toNat = 39) (hd : s[k + 1].toNat = 39) :
    textR s j bs k (txtL (s.data.toList.drop k)) = textR s j (bs ++ [s[k]]) (k + 2) (txtL (s.data.toList.drop (k + 2))) := by
  have hc' : s[k] = 39 := UInt8.toNat_inj.1 (by simpa using hc)
  have hd' : s[k + 1] = 39 := UInt8.toNat_inj.1 (by simpa using hd)
  rw [drop_cons (show k < s.size by omega), drop_cons h, txtL, if_pos hc', if_pos hd', hc']
  show textR s j bs k ((txtL (s.data.toList.drop (k + 2))).map _) = _
  cases txtL (s.data.toList.drop (k + 2)) with
  | none => rfl
  | some x => obtain ⟨b, n⟩ := x; simp only [Option.map, textR, List.append_assoc, List.singleton_append]; congr 2; omega
theorem txt_stop {s : ByteArray} {j k : Nat} {bs : List UInt8} (h : k < s.size) (hc : s[k].toNat = 39) (hd : ∀ (h : k + 1 < s.size), s[k + 1].toNat ≠ 39) :
    textR s j bs k (txtL (s.data.toList.drop k)) = .ok ((⟨bs.toArray⟩, j), k + 1) := by
  have hc' : s[k] = 39 := UInt8.toNat_inj.1 (by simpa using hc)
  rw [drop_cons h]
  by_cases h2 : k + 1 < s.size
  · have hd' : ¬ s[k + 1] = 39 := fun e => hd h2 (by rw [e]; rfl)
    rw [drop_cons h2, txtL, if_pos hc', if_neg hd']; simp [textR]
  · rw [drop_end (by omega), txtL, if_pos hc']; simp [textR]
theorem txtL_le : ∀ (l : List UInt8) (b : List UInt8) (n : Nat), txtL l = some (b, n) → n ≤ l.length ∧ b.length < n
  | [], b, n, h => by simp [txtL] at h
  | [c], b, n, h => by
    rw [txtL] at h; split at h
    · simp at h; obtain ⟨rfl, rfl⟩ := h; simp
    · cases h
  | c :: d :: r, b, n, h => by
    rw [txtL] at h; split at h
    · split at h
      · cases hr : txtL r with
        | none => rw [hr] at h; cases h
        | some x =>
          obtain ⟨b', n'⟩ := x
          rw [hr] at h; simp at h; obtain ⟨rfl, rfl⟩ := h
          have := txtL_le r b' n' hr
          simp only [List.length_cons]; omega
      · simp at h; obtain ⟨rfl, rfl⟩ := h; simp
    · cases hr : txtL (d :: r) with
      | none => rw [hr] at h; cases h
      | some x =>
        obtain ⟨b', n'⟩ := x
        rw [hr] at h; simp at h; obtain ⟨rfl, rfl⟩ := h
        have := txtL_le (d :: r) b' n' hr
        simp only [List.length_cons] at this ⊢; omega
theorem need_ok {c : Nat} {s : ByteArray} {i k : Nat} (h : needP c s i = .ok k) : i < k ∧ k ≤ s.size ∧ k = skip s i + 1 := by
  unfold needP at h
  split at h
  · rename_i hp
    simp only [Except.ok.injEq] at h; subst h
    have h1 := skip_ge s i
    have : skip s i < s.size := peek_lt (by omega)
    omega
  · cases h
theorem text_ok {s : ByteArray} {i k a : Nat} {x : ByteArray} (h : textP s i = .ok ((x, a), k)) : i < k ∧ k ≤ s.size ∧ x.size ≤ s.size ∧ a < s.size := by
  unfold textP at h
  cases hn : needP 39 s i with
  | error e => rw [hn] at h; cases h
  | ok j =>
    rw [hn] at h
    have h1 := need_ok hn
    dsimp only at h
    cases ht : txtL (s.data.toList.drop j) with
    | none => rw [ht] at h; cases h
    | some y =>
      obtain ⟨b, n⟩ := y
      rw [ht] at h
      simp only [textR, Except.ok.injEq, Prod.mk.injEq, List.nil_append] at h
      obtain ⟨⟨rfl, rfl⟩, rfl⟩ := h
      have h2 := txtL_le _ _ _ ht
      rw [List.length_drop] at h2
      have e : s.data.toList.length = s.size := rfl
      refine ⟨by omega, by omega, ?_, by omega⟩
      show b.toArray.size ≤ _
      simp; omega

def byteCs (bs : List UInt8) : List Value := bs.map fun b => .int .u8 (b.toNat : Int)
theorem heap_new2 {N : Nat} {w : World} {o : Obj} (h : N = w.heap.size) : (w.alloc o).heap[N]? = some o := by subst h; exact heap_alloc_new w _
theorem Kept.drewN' (w : World) (n : Nat) : Kept Nix w (w.drewN n) := ⟨rfl, rfl, rfl, Nat.le_refl _, fun _ _ _ => rfl⟩
theorem Tryd.infoB : (Tryd.prog.info? 5).map (fun i => (i.zero, i.size, i.bytes)) = some (some (.int .u8 0), 1, 1) := by kernel_rfl
theorem Win.conv {w : World} {B : Nat} {a : Option Addr} {c : Nat} {bs : List UInt8} (h : Win w B 5 1 (.slice a bs.length c) bs.length (byteCs bs)) :
    (convert 39 9 (.slice a bs.length c)).run Tryd.prog w = .ok (.string ⟨bs.toArray⟩) w := by
  rcases h.cells with ⟨hv, hn⟩ | ⟨g, o, cap, hv, _, _, _, _, hc⟩
  · simp only [Value.slice.injEq] at hv
    obtain ⟨rfl, hl, rfl⟩ := hv
    rw [List.eq_nil_of_length_eq_zero hl]
    exact run_convert_bytes_nil w 39 5 Tryd.underlying39 Tryd.underlying5 0 0 9 Tryd.underlying9
  · simp only [Value.slice.injEq, true_and] at hv
    obtain ⟨rfl, rfl⟩ := hv
    refine run_convert_bytes_back w 39 9 5 _ c bs Tryd.underlying39 Tryd.underlying5 Tryd.underlying9 fun j hj => ?_
    have e1 : (⟨g, o, none⟩ : Addr).add j = ⟨g, o + j, none⟩ := by unfold Addr.add; split <;> simp_all
    rw [e1]; exact (hc j _ (by simp [byteCs, hj])).1

set_option maxRecDepth 100000 in
set_option maxHeartbeats 4000000 in
theorem text_any (N W : Nat) (s : ByteArray) (i d : Nat) (w : World) (hr : Rdr N W s i d w) (hi : i ≤ s.size) (hs : s.size ≤ 1000000000) :
    Calls Tryd.prog 63 #[.pointer (some ⟨N, 0, none⟩)] w (RPost N W s d (textP s i) wordV w) := by
  have HR := Lib.hid hr
  have hN := hr.lt; have hW := hr.ltW; clear hr
  obtain ⟨i0, hi0, hz0, hz1, hz2⟩ := info_parts Tryd.infoB
  go_enter Tryd.func63, Tryd.ntmps63
  go_wp2_with fail
  refine (need_any 39 N W (by decide) s i d _ HR.out hi hs).mono ?_
  rintro e w1 ⟨K1, h⟩
  cases hn : needP 39 s i with
  | error er =>
    rw [hn] at h
    obtain rfl := h
    have e1 : textP s i = .error er := by unfold textP; rw [hn]
    have fin : Hid (∀ e, Threw er e → RPost N W s d (textP s i) wordV w e w1) := by intro e h; unfold RPost; rw [e1]; exact ⟨K1, h⟩
    clear hn e1
    go_wp2_with fail
    exact ⟨rfl, fin.out _ rfl⟩
  | ok k0 =>
    rw [hn] at h
    obtain ⟨rfl, R1⟩ := h
    obtain ⟨hk0, hk0s, hk0e⟩ := need_ok hn
    obtain ⟨j, rfl⟩ : ∃ j, k0 = j + 1 := ⟨skip s i, hk0e⟩
    have e1 : Hid (textP s i = textR s j [] (j + 1) (txtL (s.data.toList.drop (j + 1)))) := by unfold Hid textP; rw [hn]; rfl
    have q1 := R1.c1
    have R1' := Lib.hid R1; have K1' := Lib.hid K1
    have ej : ((j + 1 : Nat) : Int) - 1 = j := by omega
    have hsz := K1.size
    clear R1 K1 hn hk0e
    go_wp2_with fail
    go_loopg [5] (s.size - (j + 1)) (fun f v wr => ∃ (k : Nat) (bs : List UInt8) (a : Option Addr) (c : Nat), j + 1 ≤ k ∧ k ≤ s.size ∧ f = s.size - k ∧ bs.length ≤ k ∧ v = .slice a bs.length c ∧ Win wr w.heap.size 5 1 v bs.length (byteCs bs) ∧
      Hid (textP s i = textR s j bs k (txtL (s.data.toList.drop k))) ∧ Rdr N W s k d wr ∧ Kept (· = N) w wr)
    case atStart => exact ⟨j + 1, [], none, 0, Nat.le_refl _, hk0s, rfl, by simp, rfl, Win.nil _ _ _ _, e1, R1'.out, K1'.out⟩
    case round =>
      obtain ⟨k, bs, a, c, hk1, hk2, rfl, hbl, rfl, hW, htx, hR, hK⟩ := hrel
      clear e1
      have q0 := hR.c0; have q1 := hR.c1; have f1 := hR.fr 1
      have RR := Lib.hid hR; have KK := Lib.hid hK; have WW := Lib.hid hW
      clear hR hK R1' K1' hW
      by_cases hlt : k < s.size
      · have g1 : ((k : Int) == (s.size : Int)) = false := by simp; omega
        have bi : (k : Int) < (s.size : Int) := by omega
        by_cases hc : s[k].toNat = 39
        · have g2 : ((s[k].toNat : Int) == 39) = true := by simp; omega
          have hcv : ∀ (n m : Nat) (u : Value), (convert 39 9 (.slice a bs.length c)).run Tryd.prog (((wr.drewN n).setCell ⟨N, 1, none⟩ u).drewN m) = .ok (.string ⟨bs.toArray⟩) (((wr.drewN n).setCell ⟨N, 1, none⟩ u).drewN m) := fun n m u =>
            Win.conv (((WW.out.kept (Kept.drewN' _ n) (fun _ _ h => h)).setCell (p := ⟨N, 1, none⟩) (fun h => by have := (WW.out.lt N h).1; omega) u).kept (Kept.drewN' _ m) (fun _ _ h => h))
          obtain ⟨k1, ek1⟩ : ∃ k1 : Nat, k1 = k + 1 := ⟨_, rfl⟩
          have hk1e : (k : Int) + 1 = (k1 : Int) := by omega
          have hka : k1 ≤ k + 1 := by omega
          have hkb : k + 1 ≤ k1 := by omega
          by_cases hd : ∃ h : k + 1 < s.size, s[k + 1].toNat = 39
          · obtain ⟨h2, h3⟩ := hd
            have hl1 : k1 < s.size := by omega
            have h3' : s[k1].toNat = 39 := by simp only [ek1]; exact h3
            have g3 : ((k1 : Int) == (s.size : Int)) = false := by simp; omega
            have g4 : ((s[k1].toNat : Int) != 39) = false := by simp; omega
            have bi2 : (k1 : Int) < (s.size : Int) := by omega
            have htx2 : Hid (textP s i = textR s j (bs ++ [s[k]]) (k + 2) (txtL (s.data.toList.drop (k + 2)))) := htx.out.trans (txt_twice h2 hc h3)
            clear hc htx h3 hcv h3' ek1 h2
            go_wp2_with fail
            go_quiet (fail)
            revert nq; intro nq1
            go_wp2_with fail
            go_quiet (fail)
            revert nq; intro nq2
            go_wp2_with fail
            go_quiet (fail)
            revert nq; intro nq3
            have RP := Lib.hid ((((RR.out.drewN (nq1 + nq2)).setAt k1).drewN nq3).setAt (k1 + 1)); have KP := Lib.hid ((((KK.out.drewN (nq1 + nq2)).setCell (p := ⟨N, 1, none⟩) (.inl rfl) (.int .i64 (k1 : Int))).drewN nq3).setCell (p := ⟨N, 1, none⟩) (.inl rfl) (.int .i64 ((k1 + 1 : Nat) : Int)))
            have WP := Lib.hid ((((((WW.out.kept (Kept.drewN' _ (nq1 + nq2)) (fun _ _ h => h)).setCell (p := ⟨N, 1, none⟩) (fun h => by have := (WW.out.lt N h).1; omega) (.int .i64 (k1 : Int)))).kept (Kept.drewN' _ nq3) (fun _ _ h => h)).setCell (p := ⟨N, 1, none⟩) (fun h => by have := (WW.out.lt N h).1; omega) (.int .i64 ((k1 + 1 : Nat) : Int))).alloc (.cells #[.int .u8 (s[k].toNat : Int)] 5))
            have hbs : (bs ++ [s[k]]).length = bs.length + 1 := by simp
            have hcs : byteCs bs ++ [.int .u8 (s[k].toNat : Int)] = byteCs (bs ++ [s[k]]) := by simp [byteCs]
            have HBS := Lib.hid hbs; have HCS := Lib.hid hcs; clear hbs hcs
            go_wp2_with (at_builtin; go_loud (refine wpList_append_win _ rfl (.tmp 80) (.tmp 82) 39 39 rfl w.heap.size 5 i0 (.int .u8 0) 1 1 Tryd.underlying39 hi0 hz0 hz1 hz2 rfl (.slice a bs.length c) bs.length (byteCs bs) rfl WP.out _ 1 [.int .u8 (s[k].toNat : Int)] rfl (Src.ofSlice _ Tryd.underlying39 _ _ _ _ rfl (World.news_of_block (fr := (0, 0)) (cs := #[.int .u8 (s[k].toNat : Int)]) (heap_new2 (by simp))) (by intro u hu; simp at hu; subst hu; rfl)) (by unfold maxLen; omega) (by omega) (by have := KP.out.size; simp at this ⊢; omega) ?_); intro a3 c3 w3 hW3 hg3 ho3)
            rw [HCS.out] at hW3
            have hlow : ∀ g, (Value.slice a bs.length c).ownBlock = some g → w.heap.size ≤ g := fun g hg => (WW.out.lt g hg).1
            have K3 : Hid (Kept (· = N) w w3) := (KP.out.alloc _).grown hg3 fun x hx => .inr (hlow x hx)
            have R3 : Hid (Rdr N W s (k1 + 1) d w3) := RP.out.kept (((Kept.refl _ _).alloc _).grown (X := fun x => w.heap.size ≤ x) hg3 fun x hx => .inl (hlow x hx)) (by omega) (by omega)
            have W3 := Lib.hid hW3; have HTX : Hid (textP s i = textR s j (bs ++ [s[k]]) (k1 + 1) (txtL (s.data.toList.drop (k1 + 1)))) := by rw [show k1 + 1 = k + 2 by omega]; exact htx2.out
            clear hW3 hg3 ho3 hlow
            go_wp2_with fail
            go_roundg (s.size - (k1 + 1))
            case measure => omega
            case rel => exact ⟨k1 + 1, bs ++ [s[k]], a3, c3, by omega, by omega, rfl, by rw [HBS.out]; omega, by rw [HBS.out], by rw [HBS.out]; exact W3.out, HTX.out, R3.out, K3.out⟩
          · have fin : Hid (∀ w', Rdr N W s (k + 1) d w' → Kept (· = N) w w' → RPost N W s d (textP s i) wordV w (.returned (.tuple #[.string ⟨bs.toArray⟩, .int .i64 j])) w') := by
              intro w' h1 h2; unfold RPost; rw [htx.out, txt_stop hlt hc (fun h e => hd ⟨h, e⟩)]; exact ⟨h2, _, rfl, rfl, h1⟩
            have fin2 : Hid (∀ w', Rdr N W s k1 d w' → Kept (· = N) w w' → RPost N W s d (textP s i) wordV w (.returned (.tuple #[.string ⟨bs.toArray⟩, .int .i64 j])) w') := by rw [ek1]; exact fin
            have RP := Lib.hid (fun n m => ((RR.out.drewN n).setAt k1).drewN m); have KP := Lib.hid (fun n m => ((KK.out.drewN n).setCell (p := ⟨N, 1, none⟩) (.inl rfl) (.int .i64 (k1 : Int))).drewN m)
            by_cases h2 : k + 1 < s.size
            · have hl1 : k1 < s.size := by omega
              have h3' : s[k1].toNat ≠ 39 := by simp only [ek1]; exact fun e => hd ⟨h2, e⟩
              have g3 : ((k1 : Int) == (s.size : Int)) = false := by simp; omega
              have g4 : ((s[k1].toNat : Int) != 39) = true := by simp; omega
              have bi2 : (k1 : Int) < (s.size : Int) := by omega
              clear hc htx hd h3' ek1 h2
              go_wp2_with fail
              go_quiet (fail)
              revert nq; intro nq1
              go_wp2_with fail
              go_quiet (fail)
              revert nq; intro nq2
              go_wp2_with fail
              go_quiet (fail)
              go_wp2_with fail
              go_ret2
              exact fin2.out _ (RP.out _ _) (KP.out _ _)
            · have g3 : ((k1 : Int) == (s.size : Int)) = true := by simp; omega
              clear hc htx hd ek1
              go_wp2_with fail
              go_quiet (fail)
              revert nq; intro nq1
              go_wp2_with fail
              go_quiet (fail)
              revert nq; intro nq2
              go_wp2_with fail
              go_quiet (fail)
              go_wp2_with fail
              go_ret2
              exact fin2.out _ (RP.out _ _) (KP.out _ _)
        · have g2 : ((s[k].toNat : Int) == 39) = false := by simp; omega
          have htx2 : Hid (textP s i = textR s j (bs ++ [s[k]]) (k + 1) (txtL (s.data.toList.drop (k + 1)))) := htx.out.trans (txt_byte hlt hc)
          clear hc htx
          go_wp2_with fail
          go_quiet (fail)
          revert nq; intro nq1
          go_wp2_with fail
          go_quiet (fail)
          revert nq; intro nq2
          have RP := Lib.hid ((RR.out.drewN (nq1 + nq2)).setAt (k + 1)); have KP := Lib.hid ((KK.out.drewN (nq1 + nq2)).setCell (p := ⟨N, 1, none⟩) (.inl rfl) (.int .i64 ((k + 1 : Nat) : Int)))
          have WP := Lib.hid (((WW.out.kept (Kept.drewN' _ (nq1 + nq2)) (fun _ _ h => h)).setCell (p := ⟨N, 1, none⟩) (fun h => by have := (WW.out.lt N h).1; omega) (.int .i64 ((k + 1 : Nat) : Int))).alloc (.cells #[.int .u8 (s[k].toNat : Int)] 5))
          have hbs : (bs ++ [s[k]]).length = bs.length + 1 := by simp
          have hcs : byteCs bs ++ [.int .u8 (s[k].toNat : Int)] = byteCs (bs ++ [s[k]]) := by simp [byteCs]
          have HBS := Lib.hid hbs; have HCS := Lib.hid hcs; clear hbs hcs
          go_wp2_with (at_builtin; go_loud (refine wpList_append_win _ rfl (.tmp 80) (.tmp 82) 39 39 rfl w.heap.size 5 i0 (.int .u8 0) 1 1 Tryd.underlying39 hi0 hz0 hz1 hz2 rfl (.slice a bs.length c) bs.length (byteCs bs) rfl WP.out _ 1 [.int .u8 (s[k].toNat : Int)] rfl (Src.ofSlice _ Tryd.underlying39 _ _ _ _ rfl (World.news_of_block (fr := (0, 0)) (cs := #[.int .u8 (s[k].toNat : Int)]) (heap_new2 (by simp))) (by intro u hu; simp at hu; subst hu; rfl)) (by unfold maxLen; omega) (by omega) (by have := KP.out.size; simp at this ⊢; omega) ?_); intro a3 c3 w3 hW3 hg3 ho3)
          rw [HCS.out] at hW3
          have hlow : ∀ g, (Value.slice a bs.length c).ownBlock = some g → w.heap.size ≤ g := fun g hg => (WW.out.lt g hg).1
          have K3 : Hid (Kept (· = N) w w3) := (KP.out.alloc _).grown hg3 fun x hx => .inr (hlow x hx)
          have R3 : Hid (Rdr N W s (k + 1) d w3) := RP.out.kept (((Kept.refl _ _).alloc _).grown (X := fun x => w.heap.size ≤ x) hg3 fun x hx => .inl (hlow x hx)) (by omega) (by omega)
          have W3 := Lib.hid hW3; have HTX : Hid _ := htx2.out
          clear hW3 hg3 ho3 hlow
          go_wp2_with fail
          go_roundg (s.size - (k + 1))
          case measure => omega
          case rel => exact ⟨k + 1, bs ++ [s[k]], a3, c3, by omega, by omega, rfl, by rw [HBS.out]; omega, by rw [HBS.out], by rw [HBS.out]; exact W3.out, HTX.out, R3.out, K3.out⟩
      · have g1 : ((k : Int) == (s.size : Int)) = true := by simp; omega
        have e2 : Hid (textP s i = .error (2, k)) := by unfold Hid; rw [htx.out, txt_end (by omega)]; rw [show s.size = k by omega]
        have fin : Hid (∀ e w', Threw (2, k) e → Kept (· = N) w w' → RPost N W s d (textP s i) wordV w e w') := by intro e w' h h2; unfold RPost; rw [e2.out]; exact ⟨h2, h⟩
        go_wp2_with fail
        go_quiet (fail)
        go_wp2_with fail
        refine (fail_any _ 2 k _).mono ?_
        rintro e w2 ⟨rfl, rfl⟩
        go_wp2_with fail
        exact ⟨rfl, fin.out _ _ rfl (KK.out.drewN _)⟩
end Go.Proofs.YtdnglicgmlldlaaDoor
