/- The reader of patterns: text. The reader of patterns: number. The reader of patterns: its recursion, as plain functions. The reader of patterns: inner, primary. -/
import Derived.Test.YtdnglicgmlldlaaRm2
import Derived.Test.YtdnglicgmlldlaaShelf
namespace Go.Proofs.Ytdnglicgmlldlaa
open Go.RowKit

/-- What stands behind a quote, up to the next one that is not twice, and how many bytes that is, that quote with it. -/
def txtL : List UInt8 → Option (List UInt8 × Nat)
  | [] => none
  | [c] => if c = 39 then some ([], 1) else none
  | c :: d :: r => if c = 39 then (if d = 39 then (txtL r).map fun x => (39 :: x.1, x.2 + 2) else some ([], 1)) else (txtL (d :: r)).map fun x => (c :: x.1, x.2 + 1)
def textR (s : ByteArray) (j : Nat) (bs : List UInt8) (k : Nat) : Option (List UInt8 × Nat) → Res (ByteArray × Nat)
  | none => .error (2, s.size)
  | some (b, n) => .ok ((⟨(bs ++ b).toArray⟩, j), k + n)
def textP (s : ByteArray) (i : Nat) : Res (ByteArray × Nat) :=
  match needP 39 s i with
  | .error e => .error e
  | .ok k => textR s (k - 1) [] k (txtL (s.data.toList.drop k))
theorem txt_end {s : ByteArray} {j k : Nat} {bs : List UInt8} (h : s.size ≤ k) : textR s j bs k (txtL (s.data.toList.drop k)) = .error (2, s.size) := by
  rw [drop_end h]; rfl
theorem txt_byte {s : ByteArray} {j k : Nat} {bs : List UInt8} (h : k < s.size) (hc : s[k].toNat ≠ 39) :
    textR s j bs k (txtL (s.data.toList.drop k)) = textR s j (bs ++ [s[k]]) (k + 1) (txtL (s.data.toList.drop (k + 1))) := by
  have hc' : ¬ s[k] = 39 := fun e => hc (by rw [e]; rfl)
  rw [drop_cons h]
  by_cases h2 : k + 1 < s.size
  · rw [drop_cons h2, txtL, if_neg hc']
    cases txtL (s[k + 1] :: s.data.toList.drop (k + 1 + 1)) with
    | none => rfl
    | some x => obtain ⟨b, n⟩ := x; simp only [Option.map, textR, List.append_assoc, List.singleton_append]; congr 2; omega
  · have e : txtL [s[k]] = none := by rw [txtL, if_neg hc']
    rw [drop_end (by omega), e]; rfl
theorem txt_twice {s : ByteArray} {j k : Nat} {bs : List UInt8} (h : k + 1 < s.size) (hc : s[k].toNat = 39) (hd : s[k + 1].toNat = 39) :
    textR s j bs k (txtL (s.data.toList.drop k)) = textR s j (bs ++ [s[k]]) (k + 2) (txtL (s.data.toList.drop (k + 2))) := by
  have hc' : s[k] = 39 := UInt8.toNat_inj.1 (by simpa using hc)
  have hd' : s[k + 1] = 39 := UInt8.toNat_inj.1 (by simpa using hd)
  rw [drop_cons (show k < s.size by omega), drop_cons h, txtL, if_pos hc', if_pos hd', hc']
  show textR s j bs k ((txtL (s.data.toList.drop (k + 2))).map _) = _
  cases txtL (s.data.toList.drop (k + 2)) with
  | none => rfl
  | some x => obtain ⟨b, n⟩ := x; simp only [Option.map, textR, List.append_assoc, List.singleton_append]; congr 2; omega
theorem txt_stop {s : ByteArray} {j k : Nat} {bs : List UInt8} (h : k < s.size) (hc : s[k].toNat = 39) (hd : ∀ (h : k + 1 < s.size), s[k + 1].toNat ≠ 39) :
    textR s j bs k (txtL (s.data.toList.drop k)) = .ok ((⟨bs.toArray⟩, j), k + 1) := by
  have hc' : s[k] = 39 := UInt8.toNat_inj.1 (by simpa using hc)
  rw [drop_cons h]
  by_cases h2 : k + 1 < s.size
  · have hd' : ¬ s[k + 1] = 39 := fun e => hd h2 (by rw [e]; rfl)
    rw [drop_cons h2, txtL, if_pos hc', if_neg hd']; simp [textR]
  · rw [drop_end (by omega), txtL, if_pos hc']; simp [textR]
theorem txtL_le : ∀ (l : List UInt8) (b : List UInt8) (n : Nat), txtL l = some (b, n) → n ≤ l.length ∧ b.length < n
  | [], b, n, h => by simp [txtL] at h
  | [c], b, n, h => by
    rw [txtL] at h; split at h
    · simp at h; obtain ⟨rfl, rfl⟩ := h; simp
    · cases h
  | c :: d :: r, b, n, h => by
    rw [txtL] at h; split at h
    · split at h
      · cases hr : txtL r with
        | none => rw [hr] at h; cases h
        | some x =>
          obtain ⟨b', n'⟩ := x
          rw [hr] at h; simp at h; obtain ⟨rfl, rfl⟩ := h
          have := txtL_le r b' n' hr
          simp only [List.length_cons]; omega
      · simp at h; obtain ⟨rfl, rfl⟩ := h; simp
    · cases hr : txtL (d :: r) with
      | none => rw [hr] at h; cases h
      | some x =>
        obtain ⟨b', n'⟩ := x
        rw [hr] at h; simp at h; obtain ⟨rfl, rfl⟩ := h
        have := txtL_le (d :: r) b' n' hr
        simp only [List.length_cons] at this ⊢; omega
theorem need_ok {c : Nat} {s : ByteArray} {i k : Nat} (h : needP c s i = .ok k) : i < k ∧ k ≤ s.size ∧ k = skip s i + 1 := by
  unfold needP at h
  split at h
  · rename_i hp
    simp only [Except.ok.injEq] at h; subst h
    have h1 := skip_ge s i
    have : skip s i < s.size := peek_lt (by omega)
    omega
  · cases h
theorem text_ok {s : ByteArray} {i k a : Nat} {x : ByteArray} (h : textP s i = .ok ((x, a), k)) : i < k ∧ k ≤ s.size ∧ x.size ≤ s.size ∧ a < s.size := by
  unfold textP at h
  cases hn : needP 39 s i with
  | error e => rw [hn] at h; cases h
  | ok j =>
    rw [hn] at h
    have h1 := need_ok hn
    dsimp only at h
    cases ht : txtL (s.data.toList.drop j) with
    | none => rw [ht] at h; cases h
    | some y =>
      obtain ⟨b, n⟩ := y
      rw [ht] at h
      simp only [textR, Except.ok.injEq, Prod.mk.injEq, List.nil_append] at h
      obtain ⟨⟨rfl, rfl⟩, rfl⟩ := h
      have h2 := txtL_le _ _ _ ht
      rw [List.length_drop] at h2
      have e : s.data.toList.length = s.size := rfl
      refine ⟨by omega, by omega, ?_, by omega⟩
      show b.toArray.size ≤ _
      simp; omega

def byteCs (bs : List UInt8) : List Value := bs.map fun b => .int .u8 (b.toNat : Int)
theorem heap_new2 {N : Nat} {w : World} {o : Obj} (h : N = w.heap.size) : (w.alloc o).heap[N]? = some o := by subst h; exact heap_alloc_new w _
theorem Kept.drewN' (w : World) (n : Nat) : Kept Nix w (w.drewN n) := ⟨rfl, rfl, rfl, Nat.le_refl _, fun _ _ _ => rfl⟩
theorem Try.infoB : (Try.prog.info? 5).map (fun i => (i.zero, i.size, i.bytes)) = some (some (.int .u8 0), 1, 1) := by kernel_rfl
theorem Win.conv {w : World} {B : Nat} {a : Option Addr} {c : Nat} {bs : List UInt8} (h : Win w B 5 1 (.slice a bs.length c) bs.length (byteCs bs)) :
    (convert 64 9 (.slice a bs.length c)).run Try.prog w = .ok (.string ⟨bs.toArray⟩) w := by
  rcases h.cells with ⟨hv, hn⟩ | ⟨g, o, cap, hv, _, _, _, _, hc⟩
  · simp only [Value.slice.injEq] at hv
    obtain ⟨rfl, hl, rfl⟩ := hv
    rw [List.eq_nil_of_length_eq_zero hl]
    exact run_convert_bytes_nil w 64 5 Try.underlying64 Try.underlying5 0 0 9 Try.underlying9
  · simp only [Value.slice.injEq, true_and] at hv
    obtain ⟨rfl, rfl⟩ := hv
    refine run_convert_bytes_back w 64 9 5 _ c bs Try.underlying64 Try.underlying5 Try.underlying9 fun j hj => ?_
    have e1 : (⟨g, o, none⟩ : Addr).add j = ⟨g, o + j, none⟩ := by unfold Addr.add; split <;> simp_all
    rw [e1]; exact (hc j _ (by simp [byteCs, hj])).1

set_option maxRecDepth 100000 in
set_option maxHeartbeats 4000000 in
theorem text_any (N W : Nat) (s : ByteArray) (i d : Nat) (w : World) (hr : Rdr N W s i d w) (hi : i ≤ s.size) (hs : s.size ≤ 1000000000) :
    Calls Try.prog 70 #[.pointer (some ⟨N, 0, none⟩)] w (RPost N W s d (textP s i) wordV w) := by
  have HR := Lib.hid hr
  have hN := hr.lt; have hW := hr.ltW; clear hr
  obtain ⟨i0, hi0, hz0, hz1, hz2⟩ := info_parts Try.infoB
  go_enter Try.func70, Try.ntmps70
  go_wp2_with fail
  refine (need_any 39 N W (by decide) s i d _ HR.out hi hs).mono ?_
  rintro e w1 ⟨K1, h⟩
  cases hn : needP 39 s i with
  | error er =>
    rw [hn] at h
    obtain rfl := h
    have e1 : textP s i = .error er := by unfold textP; rw [hn]
    have fin : Hid (∀ e, Threw er e → RPost N W s d (textP s i) wordV w e w1) := by intro e h; unfold RPost; rw [e1]; exact ⟨K1, h⟩
    clear hn e1
    go_wp2_with fail
    exact ⟨rfl, fin.out _ rfl⟩
  | ok k0 =>
    rw [hn] at h
    obtain ⟨rfl, R1⟩ := h
    obtain ⟨hk0, hk0s, hk0e⟩ := need_ok hn
    obtain ⟨j, rfl⟩ : ∃ j, k0 = j + 1 := ⟨skip s i, hk0e⟩
    have e1 : Hid (textP s i = textR s j [] (j + 1) (txtL (s.data.toList.drop (j + 1)))) := by unfold Hid textP; rw [hn]; rfl
    have q1 := R1.c1
    have R1' := Lib.hid R1; have K1' := Lib.hid K1
    have ej : ((j + 1 : Nat) : Int) - 1 = j := by omega
    have hsz := K1.size
    clear R1 K1 hn hk0e
    go_wp2_with fail
    go_loopg [5] (s.size - (j + 1)) (fun f v wr => ∃ (k : Nat) (bs : List UInt8) (a : Option Addr) (c : Nat), j + 1 ≤ k ∧ k ≤ s.size ∧ f = s.size - k ∧ bs.length ≤ k ∧ v = .slice a bs.length c ∧ Win wr w.heap.size 5 1 v bs.length (byteCs bs) ∧
      Hid (textP s i = textR s j bs k (txtL (s.data.toList.drop k))) ∧ Rdr N W s k d wr ∧ Kept (· = N) w wr)
    case atStart => exact ⟨j + 1, [], none, 0, Nat.le_refl _, hk0s, rfl, by simp, rfl, Win.nil _ _ _ _, e1, R1'.out, K1'.out⟩
    case round =>
      obtain ⟨k, bs, a, c, hk1, hk2, rfl, hbl, rfl, hW, htx, hR, hK⟩ := hrel
      clear e1
      have q0 := hR.c0; have q1 := hR.c1; have f1 := hR.fr 1
      have RR := Lib.hid hR; have KK := Lib.hid hK; have WW := Lib.hid hW
      clear hR hK R1' K1' hW
      by_cases hlt : k < s.size
      · have g1 : ((k : Int) == (s.size : Int)) = false := by simp; omega
        have bi : (k : Int) < (s.size : Int) := by omega
        by_cases hc : s[k].toNat = 39
        · have g2 : ((s[k].toNat : Int) == 39) = true := by simp; omega
          have hcv : ∀ (n m : Nat) (u : Value), (convert 64 9 (.slice a bs.length c)).run Try.prog (((wr.drewN n).setCell ⟨N, 1, none⟩ u).drewN m) = .ok (.string ⟨bs.toArray⟩) (((wr.drewN n).setCell ⟨N, 1, none⟩ u).drewN m) := fun n m u =>
            Win.conv (((WW.out.kept (Kept.drewN' _ n) (fun _ _ h => h)).setCell (p := ⟨N, 1, none⟩) (fun h => by have := (WW.out.lt N h).1; omega) u).kept (Kept.drewN' _ m) (fun _ _ h => h))
          obtain ⟨k1, ek1⟩ : ∃ k1 : Nat, k1 = k + 1 := ⟨_, rfl⟩
          have hk1e : (k : Int) + 1 = (k1 : Int) := by omega
          have hka : k1 ≤ k + 1 := by omega
          have hkb : k + 1 ≤ k1 := by omega
          by_cases hd : ∃ h : k + 1 < s.size, s[k + 1].toNat = 39
          · obtain ⟨h2, h3⟩ := hd
            have hl1 : k1 < s.size := by omega
            have h3' : s[k1].toNat = 39 := by simp only [ek1]; exact h3
            have g3 : ((k1 : Int) == (s.size : Int)) = false := by simp; omega
            have g4 : ((s[k1].toNat : Int) != 39) = false := by simp; omega
            have bi2 : (k1 : Int) < (s.size : Int) := by omega
            have htx2 : Hid (textP s i = textR s j (bs ++ [s[k]]) (k + 2) (txtL (s.data.toList.drop (k + 2)))) := htx.out.trans (txt_twice h2 hc h3)
            clear hc htx h3 hcv h3' ek1 h2
            go_wp2_with fail
            go_quiet (fail)
            revert nq; intro nq1
            go_wp2_with fail
            go_quiet (fail)
            revert nq; intro nq2
            go_wp2_with fail
            go_quiet (fail)
            revert nq; intro nq3
            have RP := Lib.hid ((((RR.out.drewN (nq1 + nq2)).setAt k1).drewN nq3).setAt (k1 + 1)); have KP := Lib.hid ((((KK.out.drewN (nq1 + nq2)).setCell (p := ⟨N, 1, none⟩) (.inl rfl) (.int .i64 (k1 : Int))).drewN nq3).setCell (p := ⟨N, 1, none⟩) (.inl rfl) (.int .i64 ((k1 + 1 : Nat) : Int)))
            have WP := Lib.hid ((((((WW.out.kept (Kept.drewN' _ (nq1 + nq2)) (fun _ _ h => h)).setCell (p := ⟨N, 1, none⟩) (fun h => by have := (WW.out.lt N h).1; omega) (.int .i64 (k1 : Int)))).kept (Kept.drewN' _ nq3) (fun _ _ h => h)).setCell (p := ⟨N, 1, none⟩) (fun h => by have := (WW.out.lt N h).1; omega) (.int .i64 ((k1 + 1 : Nat) : Int))).alloc (.cells #[.int .u8 (s[k].toNat : Int)] 5))
            have hbs : (bs ++ [s[k]]).length = bs.length + 1 := by simp
            have hcs : byteCs bs ++ [.int .u8 (s[k].toNat : Int)] = byteCs (bs ++ [s[k]]) := by simp [byteCs]
            have HBS := Lib.hid hbs; have HCS := Lib.hid hcs; clear hbs hcs
            go_wp2_with (at_builtin; go_loud (refine wpList_append_win _ rfl (.tmp 80) (.tmp 82) 64 64 rfl w.heap.size 5 i0 (.int .u8 0) 1 1 Try.underlying64 hi0 hz0 hz1 hz2 rfl (.slice a bs.length c) bs.length (byteCs bs) rfl WP.out _ 1 [.int .u8 (s[k].toNat : Int)] rfl (Src.ofSlice _ Try.underlying64 _ _ _ _ rfl (World.news_of_block (fr := (0, 0)) (cs := #[.int .u8 (s[k].toNat : Int)]) (heap_new2 (by simp))) (by intro u hu; simp at hu; subst hu; rfl)) (by unfold maxLen; omega) (by omega) (by have := KP.out.size; simp at this ⊢; omega) ?_); intro a3 c3 w3 hW3 hg3 ho3)
            rw [HCS.out] at hW3
            have hlow : ∀ g, (Value.slice a bs.length c).ownBlock = some g → w.heap.size ≤ g := fun g hg => (WW.out.lt g hg).1
            have K3 : Hid (Kept (· = N) w w3) := (KP.out.alloc _).grown hg3 fun x hx => .inr (hlow x hx)
            have R3 : Hid (Rdr N W s (k1 + 1) d w3) := RP.out.kept (((Kept.refl _ _).alloc _).grown (X := fun x => w.heap.size ≤ x) hg3 fun x hx => .inl (hlow x hx)) (by omega) (by omega)
            have W3 := Lib.hid hW3; have HTX : Hid (textP s i = textR s j (bs ++ [s[k]]) (k1 + 1) (txtL (s.data.toList.drop (k1 + 1)))) := by rw [show k1 + 1 = k + 2 by omega]; exact htx2.out
            clear hW3 hg3 ho3 hlow
            go_wp2_with fail
            go_roundg (s.size - (k1 + 1))
            case measure => omega
            case rel => exact ⟨k1 + 1, bs ++ [s[k]], a3, c3, by omega, by omega, rfl, by rw [HBS.out]; omega, by rw [HBS.out], by rw [HBS.out]; exact W3.out, HTX.out, R3.out, K3.out⟩
          · have fin : Hid (∀ w', Rdr N W s (k + 1) d w' → Kept (· = N) w w' → RPost N W s d (textP s i) wordV w (.returned (.tuple #[.string ⟨bs.toArray⟩, .int .i64 j])) w') := by
              intro w' h1 h2; unfold RPost; rw [htx.out, txt_stop hlt hc (fun h e => hd ⟨h, e⟩)]; exact ⟨h2, _, rfl, rfl, h1⟩
            have fin2 : Hid (∀ w', Rdr N W s k1 d w' → Kept (· = N) w w' → RPost N W s d (textP s i) wordV w (.returned (.tuple #[.string ⟨bs.toArray⟩, .int .i64 j])) w') := by rw [ek1]; exact fin
            have RP := Lib.hid (fun n m => ((RR.out.drewN n).setAt k1).drewN m); have KP := Lib.hid (fun n m => ((KK.out.drewN n).setCell (p := ⟨N, 1, none⟩) (.inl rfl) (.int .i64 (k1 : Int))).drewN m)
            by_cases h2 : k + 1 < s.size
            · have hl1 : k1 < s.size := by omega
              have h3' : s[k1].toNat ≠ 39 := by simp only [ek1]; exact fun e => hd ⟨h2, e⟩
              have g3 : ((k1 : Int) == (s.size : Int)) = false := by simp; omega
              have g4 : ((s[k1].toNat : Int) != 39) = true := by simp; omega
              have bi2 : (k1 : Int) < (s.size : Int) := by omega
              clear hc htx hd h3' ek1 h2
              go_wp2_with fail
              go_quiet (fail)
              revert nq; intro nq1
              go_wp2_with fail
              go_quiet (fail)
              revert nq; intro nq2
              go_wp2_with fail
              go_quiet (fail)
              go_wp2_with fail
              go_ret2
              exact fin2.out _ (RP.out _ _) (KP.out _ _)
            · have g3 : ((k1 : Int) == (s.size : Int)) = true := by simp; omega
              clear hc htx hd ek1
              go_wp2_with fail
              go_quiet (fail)
              revert nq; intro nq1
              go_wp2_with fail
              go_quiet (fail)
              revert nq; intro nq2
              go_wp2_with fail
              go_quiet (fail)
              go_wp2_with fail
              go_ret2
              exact fin2.out _ (RP.out _ _) (KP.out _ _)
        · have g2 : ((s[k].toNat : Int) == 39) = false := by simp; omega
          have htx2 : Hid (textP s i = textR s j (bs ++ [s[k]]) (k + 1) (txtL (s.data.toList.drop (k + 1)))) := htx.out.trans (txt_byte hlt hc)
          clear hc htx
          go_wp2_with fail
          go_quiet (fail)
          revert nq; intro nq1
          go_wp2_with fail
          go_quiet (fail)
          revert nq; intro nq2
          have RP := Lib.hid ((RR.out.drewN (nq1 + nq2)).setAt (k + 1)); have KP := Lib.hid ((KK.out.drewN (nq1 + nq2)).setCell (p := ⟨N, 1, none⟩) (.inl rfl) (.int .i64 ((k + 1 : Nat) : Int)))
          have WP := Lib.hid (((WW.out.kept (Kept.drewN' _ (nq1 + nq2)) (fun _ _ h => h)).setCell (p := ⟨N, 1, none⟩) (fun h => by have := (WW.out.lt N h).1; omega) (.int .i64 ((k + 1 : Nat) : Int))).alloc (.cells #[.int .u8 (s[k].toNat : Int)] 5))
          have hbs : (bs ++ [s[k]]).length = bs.length + 1 := by simp
          have hcs : byteCs bs ++ [.int .u8 (s[k].toNat : Int)] = byteCs (bs ++ [s[k]]) := by simp [byteCs]
          have HBS := Lib.hid hbs; have HCS := Lib.hid hcs; clear hbs hcs
          go_wp2_with (at_builtin; go_loud (refine wpList_append_win _ rfl (.tmp 80) (.tmp 82) 64 64 rfl w.heap.size 5 i0 (.int .u8 0) 1 1 Try.underlying64 hi0 hz0 hz1 hz2 rfl (.slice a bs.length c) bs.length (byteCs bs) rfl WP.out _ 1 [.int .u8 (s[k].toNat : Int)] rfl (Src.ofSlice _ Try.underlying64 _ _ _ _ rfl (World.news_of_block (fr := (0, 0)) (cs := #[.int .u8 (s[k].toNat : Int)]) (heap_new2 (by simp))) (by intro u hu; simp at hu; subst hu; rfl)) (by unfold maxLen; omega) (by omega) (by have := KP.out.size; simp at this ⊢; omega) ?_); intro a3 c3 w3 hW3 hg3 ho3)
          rw [HCS.out] at hW3
          have hlow : ∀ g, (Value.slice a bs.length c).ownBlock = some g → w.heap.size ≤ g := fun g hg => (WW.out.lt g hg).1
          have K3 : Hid (Kept (· = N) w w3) := (KP.out.alloc _).grown hg3 fun x hx => .inr (hlow x hx)
          have R3 : Hid (Rdr N W s (k + 1) d w3) := RP.out.kept (((Kept.refl _ _).alloc _).grown (X := fun x => w.heap.size ≤ x) hg3 fun x hx => .inl (hlow x hx)) (by omega) (by omega)
          have W3 := Lib.hid hW3; have HTX : Hid _ := htx2.out
          clear hW3 hg3 ho3 hlow
          go_wp2_with fail
          go_roundg (s.size - (k + 1))
          case measure => omega
          case rel => exact ⟨k + 1, bs ++ [s[k]], a3, c3, by omega, by omega, rfl, by rw [HBS.out]; omega, by rw [HBS.out], by rw [HBS.out]; exact W3.out, HTX.out, R3.out, K3.out⟩
      · have g1 : ((k : Int) == (s.size : Int)) = true := by simp; omega
        have e2 : Hid (textP s i = .error (2, k)) := by unfold Hid; rw [htx.out, txt_end (by omega)]; rw [show s.size = k by omega]
        have fin : Hid (∀ e w', Threw (2, k) e → Kept (· = N) w w' → RPost N W s d (textP s i) wordV w e w') := by intro e w' h h2; unfold RPost; rw [e2.out]; exact ⟨h2, h⟩
        go_wp2_with fail
        go_quiet (fail)
        go_wp2_with fail
        refine (fail_any _ 2 k _).mono ?_
        rintro e w2 ⟨rfl, rfl⟩
        go_wp2_with fail
        exact ⟨rfl, fin.out _ _ rfl (KK.out.drewN _)⟩
end Go.Proofs.Ytdnglicgmlldlaa
namespace Go.Proofs.Ytdnglicgmlldlaa
open Go.RowKit

def isD (s : ByteArray) (k : Nat) : Bool := decide (48 ≤ peek s k) && decide (peek s k ≤ 57)
def numGo (s : ByteArray) (j : Nat) : Nat → Nat → Nat → Res Nat
  | 0, k, n => .ok (n, k)
  | f + 1, k, n =>
    if isD s k = true then
      (if k = j + 1 ∧ peek s j = 48 then .error (2, k)
       else if 65536 < 10 * n + ((peek s k).toNat - 48) then .error (3, j) else numGo s j f (k + 1) (10 * n + ((peek s k).toNat - 48)))
    else .ok (n, k)
def numP (s : ByteArray) (i : Nat) : Res Nat :=
  if 48 ≤ peek s (skip s i) ∧ peek s (skip s i) ≤ 57 then numGo s (skip s i) (s.size - skip s i) (skip s i) 0 else .error (2, skip s i)
def natV (x : Nat) (_ : World) (v : Value) : Prop := v = .int .i64 x

set_option maxRecDepth 100000 in
set_option maxHeartbeats 4000000 in
theorem number_any (N W : Nat) (s : ByteArray) (i d : Nat) (w : World) (hr : Rdr N W s i d w) (hi : i ≤ s.size) (hs : s.size ≤ 1000000000) :
    Calls Try.prog 73 #[.pointer (some ⟨N, 0, none⟩)] w (RPost N W s d (numP s i) natV w) := by
  have HR := Lib.hid hr; clear hr
  go_enter Try.func73, Try.ntmps73
  go_wp2_with fail
  refine (next_any N W s i d _ HR.out hi hs).mono ?_
  rintro e w1 ⟨rfl, R1, K1⟩
  have hle := skip_le hi
  have q1 := R1.c1
  by_cases hp : 48 ≤ peek s (skip s i) ∧ peek s (skip s i) ≤ 57
  · obtain ⟨p1, p2⟩ := hp
    have g1 : decide (peek s (skip s i) < 48) = false := decide_eq_false (by omega)
    have g2 : decide (57 < peek s (skip s i)) = false := decide_eq_false (by omega)
    have e2 : Hid (numP s i = numGo s (skip s i) (s.size - skip s i) (skip s i) 0) := by unfold Hid numP; rw [if_pos ⟨p1, p2⟩]
    have R1' := Lib.hid R1; have K1' := Lib.hid K1
    have hjl : skip s i < s.size := peek_lt (by omega)
    clear R1 K1
    go_wp2_with fail
    generalize hj : skip s i = j at *
    clear g1 g2 p1 p2 hj
    go_loopg [5] (s.size - j) (fun f v wr => ∃ k n : Nat, j ≤ k ∧ k ≤ s.size ∧ f = s.size - k ∧ v = .int .i64 n ∧ n ≤ 65536 ∧ Hid (numP s i = numGo s j (s.size - k) k n) ∧ Rdr N W s k d wr ∧ Kept (· = N) w wr)
    case atStart => exact ⟨j, 0, Nat.le_refl _, hle, rfl, rfl, by omega, e2, R1'.out, K1'.out⟩
    case round =>
      obtain ⟨k, n, hk1, hk2, rfl, rfl, hn, hnum, hR, hK⟩ := hrel
      have q0 := hR.c0; have q1 := hR.c1; have f1 := hR.fr 1
      have RR := Lib.hid hR; have KK := Lib.hid hK
      clear hR hK R1' K1' e2
      by_cases hlt : k < s.size
      · have g1 : decide ((k : Int) < (s.size : Int)) = true := decide_eq_true (by omega)
        have bi : (k : Int) < (s.size : Int) := by omega
        have hstep : s.size - k = (s.size - (k + 1)) + 1 := by omega
        rw [hstep, numGo] at hnum
        by_cases hd : 48 ≤ s[k].toNat ∧ s[k].toNat ≤ 57
        · have h48 : decide ((48 : Int) ≤ (s[k].toNat : Int)) = true := decide_eq_true (by omega)
          have h57 : decide ((s[k].toNat : Int) ≤ 57) = true := decide_eq_true (by omega)
          have hD : isD s k = true := by unfold isD; rw [peek_at hlt]; simp; omega
          rw [if_pos hD] at hnum
          have bj : (j : Int) < (s.size : Int) := by omega
          have hjw : s[j].toNat < 256 := s[j].toNat_lt
          by_cases hz : k = j + 1 ∧ s[j].toNat = 48
          · obtain ⟨hz1, hz2⟩ := hz
            have fin : Hid (∀ e w', Threw (2, k) e → Kept (· = N) w w' → RPost N W s d (numP s i) natV w e w') := by
              intro e w' h h2; unfold RPost; rw [hnum.out, if_pos ⟨hz1, by rw [peek_at hjl, hz2]; rfl⟩]; exact ⟨h2, h⟩
            have g3 : ((k : Int) == (j : Int) + 1) = true := by simp; omega
            have g4 : ((s[j].toNat : Int) == 48) = true := by simp; omega
            clear hz1 hz2 hnum
            go_wp2_with fail
            go_quiet (fail)
            go_wp2_with fail
            refine (fail_any _ 2 k _).mono ?_
            rintro e w2 ⟨rfl, rfl⟩
            go_wp2_with fail
            exact ⟨rfl, fin.out _ _ rfl (KK.out.drewN _)⟩
          · rw [if_neg (by rw [peek_at hjl]; omega)] at hnum
            have hpk : (peek s k).toNat = s[k].toNat := by rw [peek_at hlt]; omega
            rw [hpk] at hnum
            obtain ⟨x, hx⟩ : ∃ x : Nat, x = 10 * n + (s[k].toNat - 48) := ⟨_, rfl⟩
            rw [← hx] at hnum
            have hxi : (10 : Int) * (n : Int) + ((s[k].toNat : Int) - 48) = (x : Int) := by omega
            have hxb : x ≤ 655369 := by omega
            obtain ⟨hd1, hd2⟩ := hd
            have hm1 : IntKind.i64.wrap (10 * (n : Int)) = 10 * (n : Int) := IntWalk.i64_in _ (by omega)
            have hm2 : IntKind.u8.wrap ((s[k].toNat : Int) - 48) = (s[k].toNat : Int) - 48 := by unfold IntKind.wrap; simp [IntKind.signed, IntKind.bits]; omega
            clear hx
            by_cases hk0 : k = j + 1
            · have g3 : ((k : Int) == (j : Int) + 1) = true := by simp; omega
              have g4 : ((s[j].toNat : Int) == 48) = false := by simp; omega
              clear hz hk0
              by_cases hx6 : 65536 < x
              · rw [if_pos hx6] at hnum
                have fin : Hid (∀ e w', Threw (3, j) e → Kept (· = N) w w' → RPost N W s d (numP s i) natV w e w') := by intro e w' h h2; unfold RPost; rw [hnum.out]; exact ⟨h2, h⟩
                clear hnum
                go_wp2_with fail
                go_quiet (fail)
                revert nq; intro nq1
                go_wp2_with fail
                go_quiet (fail)
                revert nq; intro nq2
                go_wp2_with fail
                refine (fail_any _ 3 j _).mono ?_
                rintro e w2 ⟨rfl, rfl⟩
                go_wp2_with fail
                exact ⟨rfl, fin.out _ _ rfl (KK.out.drewN _)⟩
              · rw [if_neg hx6] at hnum
                have hnum2 := hnum
                clear hnum
                have hx7 : x ≤ 65536 := by omega
                clear hx6
                go_wp2_with fail
                go_quiet (fail)
                revert nq; intro nq1
                go_wp2_with fail
                go_quiet (fail)
                revert nq; intro nq2
                have R2 := Lib.hid ((RR.out.drewN (nq1 + nq2)).setAt (k + 1)); have K2 := Lib.hid ((KK.out.drewN (nq1 + nq2)).setCell (p := ⟨N, 1, none⟩) (.inl rfl) (.int .i64 ((k + 1 : Nat) : Int)))
                go_wp2_with fail
                go_roundg (s.size - (k + 1))
                case measure => omega
                case rel => exact ⟨k + 1, x, by omega, by omega, rfl, rfl, hx7, hnum2, R2.out, K2.out⟩
            · have g3 : ((k : Int) == (j : Int) + 1) = false := by simp; omega
              clear hz hk0
              by_cases hx6 : 65536 < x
              · rw [if_pos hx6] at hnum
                have fin : Hid (∀ e w', Threw (3, j) e → Kept (· = N) w w' → RPost N W s d (numP s i) natV w e w') := by intro e w' h h2; unfold RPost; rw [hnum.out]; exact ⟨h2, h⟩
                clear hnum
                go_wp2_with fail
                go_quiet (fail)
                revert nq; intro nq1
                go_wp2_with fail
                go_quiet (fail)
                revert nq; intro nq2
                go_wp2_with fail
                refine (fail_any _ 3 j _).mono ?_
                rintro e w2 ⟨rfl, rfl⟩
                go_wp2_with fail
                exact ⟨rfl, fin.out _ _ rfl (KK.out.drewN _)⟩
              · rw [if_neg hx6] at hnum
                have hnum2 := hnum
                clear hnum
                have hx7 : x ≤ 65536 := by omega
                clear hx6
                go_wp2_with fail
                go_quiet (fail)
                revert nq; intro nq1
                go_wp2_with fail
                go_quiet (fail)
                revert nq; intro nq2
                have R2 := Lib.hid ((RR.out.drewN (nq1 + nq2)).setAt (k + 1)); have K2 := Lib.hid ((KK.out.drewN (nq1 + nq2)).setCell (p := ⟨N, 1, none⟩) (.inl rfl) (.int .i64 ((k + 1 : Nat) : Int)))
                go_wp2_with fail
                go_roundg (s.size - (k + 1))
                case measure => omega
                case rel => exact ⟨k + 1, x, by omega, by omega, rfl, rfl, hx7, hnum2, R2.out, K2.out⟩
        · have hD : isD s k = false := by unfold isD; rw [peek_at hlt]; simp; omega
          rw [if_neg (by rw [hD]; simp)] at hnum
          have fin : Hid (∀ w', Rdr N W s k d w' → Kept (· = N) w w' → RPost N W s d (numP s i) natV w (.returned (.int .i64 n)) w') := by
            intro w' h1 h2; unfold RPost; rw [hnum.out]; exact ⟨h2, _, rfl, rfl, h1⟩
          clear hnum hD
          rcases (show s[k].toNat < 48 ∨ (48 ≤ s[k].toNat ∧ 57 < s[k].toNat) by omega) with h | ⟨h0, h⟩
          · have h48 : decide ((48 : Int) ≤ (s[k].toNat : Int)) = false := decide_eq_false (by omega)
            clear hd h
            go_wp2_with fail
            go_quiet (fail)
            go_wp2_with fail
            go_ret
            exact fin.out _ (RR.out.drewN _) (KK.out.drewN _)
          · have h48 : decide ((48 : Int) ≤ (s[k].toNat : Int)) = true := decide_eq_true (by omega)
            have h57 : decide ((s[k].toNat : Int) ≤ 57) = false := decide_eq_false (by omega)
            clear hd h0 h
            go_wp2_with fail
            go_quiet (fail)
            go_wp2_with fail
            go_ret
            exact fin.out _ (RR.out.drewN _) (KK.out.drewN _)
      · have g1 : decide ((k : Int) < (s.size : Int)) = false := decide_eq_false (by omega)
        rw [show s.size - k = 0 by omega, numGo] at hnum
        have fin : Hid (∀ w', Rdr N W s k d w' → Kept (· = N) w w' → RPost N W s d (numP s i) natV w (.returned (.int .i64 n)) w') := by
          intro w' h1 h2; unfold RPost; rw [hnum.out]; exact ⟨h2, _, rfl, rfl, h1⟩
        clear hnum
        go_wp2_with fail
        go_quiet (fail)
        go_wp2_with fail
        go_ret
        exact fin.out _ (RR.out.drewN _) (KK.out.drewN _)
  · have e2 : numP s i = .error (2, skip s i) := by unfold numP; rw [if_neg hp]
    have fin : Hid (∀ e, Threw (2, skip s i) e → RPost N W s d (numP s i) natV w e w1) := by intro e h; unfold RPost; rw [e2]; exact ⟨K1, h⟩
    clear R1 K1 e2
    rcases (show peek s (skip s i) < 48 ∨ (48 ≤ peek s (skip s i) ∧ 57 < peek s (skip s i)) by omega) with h | ⟨h0, h⟩
    · have g1 : decide (peek s (skip s i) < 48) = true := decide_eq_true h
      clear hp h
      go_wp2_with fail
      refine (fail_any _ 2 (skip s i) w1).mono ?_
      rintro e w2 ⟨rfl, rfl⟩
      go_wp2_with fail
      exact ⟨rfl, fin.out _ rfl⟩
    · have g1 : decide (peek s (skip s i) < 48) = false := decide_eq_false (by omega)
      have g2 : decide (57 < peek s (skip s i)) = true := decide_eq_true h
      clear hp h h0
      go_wp2_with fail
      refine (fail_any _ 2 (skip s i) w1).mono ?_
      rintro e w2 ⟨rfl, rfl⟩
      go_wp2_with fail
      exact ⟨rfl, fin.out _ rfl⟩

theorem numGo_ok {s : ByteArray} {j : Nat} : ∀ (f k n : Nat) {m k' : Nat}, numGo s j f k n = .ok (m, k') → k ≤ s.size → n ≤ 65536 → k ≤ k' ∧ k' ≤ s.size ∧ m ≤ 65536
  | 0, k, n, m, k', h, hk, hn => by simp [numGo] at h; omega
  | f + 1, k, n, m, k', h, hk, hn => by
    rw [numGo] at h
    split at h
    · rename_i hd
      have hlt : k < s.size := by
        unfold isD at hd
        simp only [Bool.and_eq_true, decide_eq_true_eq] at hd
        exact peek_lt (by omega)
      split at h
      · cases h
      · split at h
        · cases h
        · have := numGo_ok f _ _ h (by omega) (by omega); omega
    · simp at h; omega
theorem num_ok {s : ByteArray} {i m k : Nat} (hi : i ≤ s.size) (h : numP s i = .ok (m, k)) : i ≤ k ∧ k ≤ s.size ∧ m ≤ 65536 := by
  unfold numP at h
  split at h
  · have h1 := numGo_ok _ _ _ h (skip_le hi) (by omega)
    have h2 := skip_ge s i
    omega
  · cases h
end Go.Proofs.Ytdnglicgmlldlaa
namespace Go.Proofs.Ytdnglicgmlldlaa
open Go.RowKit

def E0 : ByteArray := ⟨#[]⟩
def kindOf (x : ByteArray) : Int := Lib.idxOfS wordsL x
def pk (k : Int) (t : ByteArray) (n : Int) (nm : ByteArray) (l : List PatT) : PatT := .mk k t n nm l
/-- Brackets round a text, a number. -/
def argTextP (s : ByteArray) (k : Nat) (kd : Int) : Res PatT :=
  match needP 40 s k with
  | .error e => .error e
  | .ok k1 => match textP s k1 with
    | .error e => .error e
    | .ok ((t, a), k2) => if t.size = 0 then .error (8, a) else
      match needP 41 s k2 with
      | .error e => .error e
      | .ok k3 => .ok (.mk kd t 0 E0 [], k3)
def argNumP (s : ByteArray) (k : Nat) (kd : Int) : Res PatT :=
  match needP 40 s k with
  | .error e => .error e
  | .ok k1 => match numP s k1 with
    | .error e => .error e
    | .ok (n, k2) => match needP 41 s k2 with
      | .error e => .error e
      | .ok k3 => .ok (.mk kd E0 n E0 [], k3)
def argPatP (inner : Nat → Res PatT) (s : ByteArray) (k : Nat) (kd : Int) : Res PatT :=
  match needP 40 s k with
  | .error e => .error e
  | .ok k1 => match inner k1 with
    | .error e => .error e
    | .ok (p, k2) => match needP 41 s k2 with
      | .error e => .error e
      | .ok k3 => .ok (.mk kd E0 0 E0 [p], k3)
def kindP (inner : Nat → Res PatT) (s : ByteArray) (a k : Nat) (kd : Int) : Res PatT :=
  if kd = -1 ∨ kd = 0 then .error (7, a)
  else if 3 ≤ kd ∧ kd ≤ 7 then argTextP s k kd
  else if kd = 2 ∨ (8 ≤ kd ∧ kd ≤ 11) then argNumP s k kd
  else if kd = 20 then argPatP inner s k kd
  else .ok (.mk kd E0 0 E0 [], k)
def litP (s : ByteArray) (j : Nat) : Res PatT :=
  match textP s j with
  | .error e => .error e
  | .ok ((t, _), k) => .ok (.mk 1 t 0 E0 [], k)
def nmP (s : ByteArray) (j : Nat) (kd : Int) : Res PatT :=
  match nameP s j with
  | .error e => .error e
  | .ok (nm, k) => .ok (.mk kd E0 0 nm [], k)
def wdP (inner : Nat → Res PatT) (s : ByteArray) (j : Nat) : Res PatT :=
  match wordP s j with
  | .error e => .error e
  | .ok ((x, a), k) => kindP inner s a k (kindOf x)
def primaryP (inner : Nat → Res PatT) (s : ByteArray) (i : Nat) : Res PatT :=
  if peek s (skip s i) = 39 then litP s (skip s i)
  else if peek s (skip s i) = 64 then nmP s (skip s i + 1) 23
  else if peek s (skip s i) = 42 then nmP s (skip s i + 1) 24
  else wdP inner s (skip s i)
def giftsP (s : ByteArray) : Nat → PatT → Nat → Res PatT
  | 0, p, k => .ok (p, k)
  | f + 1, p, k =>
    if (isP 46 s k).1 = true then
      match nameP s (isP 46 s k).2 with
      | .error e => .error e
      | .ok (nm, k1) => giftsP s f (.mk 21 E0 0 nm [p]) k1
    else if (isP 36 s (isP 46 s k).2).1 = true then
      match nameP s (isP 36 s (isP 46 s k).2).2 with
      | .error e => .error e
      | .ok (nm, k1) => giftsP s f (.mk 22 E0 0 nm [p]) k1
    else .ok (p, (isP 36 s (isP 46 s k).2).2)
def headP (inner : Nat → Res PatT) (s : ByteArray) (i : Nat) : Res PatT :=
  if (isP 40 s i).1 = true then
    match inner (isP 40 s i).2 with
    | .error e => .error e
    | .ok (p, k) => match needP 41 s k with
      | .error e => .error e
      | .ok k1 => .ok (p, k1)
  else primaryP inner s (isP 40 s i).2
def itemP (inner : Nat → Res PatT) (s : ByteArray) (i : Nat) : Res PatT :=
  match headP inner s i with
  | .error e => .error e
  | .ok (p, k) => giftsP s (s.size + 1 - k) p k
def starts (c : Int) : Bool := c == 40 || c == 39 || c == 64 || c == 42 || (decide (65 ≤ c) && decide (c ≤ 90))
def oneOr (kd : Int) (l : List PatT) : PatT := match l with | [p] => p | l => .mk kd E0 0 E0 l
def catGo (inner : Nat → Res PatT) (s : ByteArray) : Nat → List PatT → Nat → Res PatT
  | 0, l, k => .ok (oneOr 18 l, k)
  | f + 1, l, k =>
    if starts (peek s (skip s k)) = true then
      match itemP inner s (skip s k) with
      | .error e => .error e
      | .ok (p, k1) => catGo inner s f (l ++ [p]) k1
    else .ok (oneOr 18 l, skip s k)
def catP (inner : Nat → Res PatT) (s : ByteArray) (i : Nat) : Res PatT :=
  match itemP inner s i with
  | .error e => .error e
  | .ok (p, k) => catGo inner s (s.size + 1 - k) [p] k
def altGo (inner : Nat → Res PatT) (s : ByteArray) : Nat → List PatT → Nat → Res PatT
  | 0, l, k => .ok (oneOr 19 l, k)
  | f + 1, l, k =>
    if (isP 124 s k).1 = true then
      match catP inner s (isP 124 s k).2 with
      | .error e => .error e
      | .ok (p, k1) => altGo inner s f (l ++ [p]) k1
    else .ok (oneOr 19 l, (isP 124 s k).2)
def altP (inner : Nat → Res PatT) (s : ByteArray) (i : Nat) : Res PatT :=
  match catP inner s i with
  | .error e => .error e
  | .ok (p, k) => altGo inner s (s.size + 1 - k) [p] k
/-- m more brackets may be opened. -/
def innerP (s : ByteArray) : Nat → Nat → Res PatT
  | 0, i => .error (4, i)
  | m + 1, i => altP (innerP s m) s i

/-- A parser goes forward, and stays in the text. -/
def Fwd (s : ByteArray) (f : Nat → Res PatT) : Prop := ∀ i p k, i ≤ s.size → f i = .ok (p, k) → i < k ∧ k ≤ s.size
end Go.Proofs.Ytdnglicgmlldlaa
namespace Go.Proofs.Ytdnglicgmlldlaa
open Go.RowKit

theorem e0_lt : E0.size < 1000000000 := by decide
theorem len0_lt : ([] : List PatT).length < 1000000000 := by decide
theorem len1_lt (p : PatT) : [p].length < 1000000000 := by simp
def patVal (B : Nat) (p : PatT) (w' : World) (v : Value) : Prop := ∃ S : Nat → Prop, (∀ b, S b → B ≤ b ∧ b < w'.heap.size) ∧ PatV w' S v p
def InnerOk (N W : Nat) (s : ByteArray) (d : Nat) (inner : Nat → Res PatT) : Prop :=
  ∀ (i : Nat) (w : World), Rdr N W s i d w → i ≤ s.size → Calls Try.prog 58 #[.pointer (some ⟨N, 0, none⟩)] w (RPost N W s d (inner i) (patVal w.heap.size) w)

/-- A result's five cells at block M. -/
def Five (M : Nat) (c0 c1 c2 c3 c4 : Value) (w : World) : Prop := w.heap[M]? = some (.cells #[c0, c1, c2, c3, c4] 24 (0, 0))
theorem Five.lt {M : Nat} {c0 c1 c2 c3 c4 : Value} {w : World} (h : Five M c0 c1 c2 c3 c4 w) : M < w.heap.size := (Array.getElem?_eq_some_iff.1 h).1
theorem Five.kept {M : Nat} {c0 c1 c2 c3 c4 : Value} {w w' : World} {X : Nat → Prop} (h : Five M c0 c1 c2 c3 c4 w) (hk : Kept X w w') (hx : ¬ X M) : Five M c0 c1 c2 c3 c4 w' := by
  unfold Five; rw [hk.block M h.lt hx]; exact h
theorem Five.cells {M : Nat} {c0 c1 c2 c3 c4 : Value} {w : World} (h : Five M c0 c1 c2 c3 c4 w) : w.cell? ⟨M, 0, none⟩ = some c0 ∧ w.cell? ⟨M, 1, none⟩ = some c1 ∧ w.cell? ⟨M, 2, none⟩ = some c2 ∧ w.cell? ⟨M, 3, none⟩ = some c3 ∧ w.cell? ⟨M, 4, none⟩ = some c4 ∧ ∀ o, w.frozen? ⟨M, o, none⟩ = false := by
  unfold Five at h
  refine ⟨?_, ?_, ?_, ?_, ?_, fun o => by simp [World.frozen?, h]⟩ <;> (rw [cell_of_row w M _ _ _ _ h]; rfl)
def set5 (w : World) (M : Nat) (c0 c1 c2 c3 c4 : Value) : World := ((((w.setCell ⟨M, 0, none⟩ c0).setCell ⟨M, 1, none⟩ c1).setCell ⟨M, 2, none⟩ c2).setCell ⟨M, 3, none⟩ c3).setCell ⟨M, 4, none⟩ c4
theorem Five.set5 {M : Nat} {z0 z1 z2 z3 z4 : Value} {w : World} (h : Five M z0 z1 z2 z3 z4 w) (c0 c1 c2 c3 c4 : Value) : Five M c0 c1 c2 c3 c4 (set5 w M c0 c1 c2 c3 c4) := by
  unfold Five at h ⊢
  unfold Go.Proofs.Ytdnglicgmlldlaa.set5
  rw [row_setCell (row_setCell (row_setCell (row_setCell (row_setCell h _) _) _) _) _]; rfl
theorem Kept.set5 {X : Nat → Prop} {a w : World} (h : Kept X a w) {M : Nat} (hM : X M ∨ a.heap.size ≤ M) (c0 c1 c2 c3 c4 : Value) : Kept X a (set5 w M c0 c1 c2 c3 c4) :=
  ((((h.setCell (p := ⟨M, 0, none⟩) hM _).setCell (p := ⟨M, 1, none⟩) hM _).setCell (p := ⟨M, 2, none⟩) hM _).setCell (p := ⟨M, 3, none⟩) hM _).setCell (p := ⟨M, 4, none⟩) hM _
theorem results_five {f : Func} (hres : f.results = #[.cell 2 24]) {tmps : Array Value} {M : Nat} (ht : tmps.getD 2 undef = .pointer (some ⟨M, 0, none⟩)) {c0 c1 c2 c3 c4 : Value} {w : World} (h : Five M c0 c1 c2 c3 c4 w) :
    (results f tmps).run Try.prog w = .ok (.agg #[c0, c1, c2, c3, c4]) w := by
  obtain ⟨h0, h1, h2, h3, h4, _⟩ := h.cells
  have ht' : tmps[2]?.getD undef = .pointer (some ⟨M, 0, none⟩) := by rw [← ht, Array.getD_eq_getD_getElem?]
  simp [results, hres, go_sem, ht', h0, h1, h2, h3, h4]
/-- The end of a function of the reader that answers a pattern: w2: before the answer's five cells are written; w': behind. -/
theorem ret_patG {f : Func} (hres : f.results = #[.cell 2 24]) {tmps : Array Value} {M N W : Nat} {s : ByteArray} {d k : Nat} {r : Res PatT} {p : PatT} {w w2 w' : World} {ka : Option Addr} {cap : Nat} {S : Nat → Prop}
    (ht : tmps.getD 2 undef = .pointer (some ⟨M, 0, none⟩)) (F : Five M (.int .i64 p.kind) (.string p.text) (.int .i64 p.n) (.string p.name) (.slice ka p.kids.length cap) w') (K5 : Kept (· = M) w2 w') (R : Rdr N W s k d w2) (K : Kept (· = N) w w2) (hM : w.heap.size ≤ M) (hN : N < w.heap.size) (hW : W < w.heap.size)
    (hr : r = .ok (p, k)) (hz : p.text.size < 1000000000 ∧ p.name.size < 1000000000 ∧ p.kids.length < 1000000000) (hS : ∀ b, S b → w.heap.size ≤ b ∧ b < w2.heap.size ∧ b ≠ M) (hp : PatsAt w2 S ka p.kids) :
    bodyPost Try.prog f (RPost N W s d r (patVal w.heap.size) w) .ret ⟨tmps, []⟩ w' := by
  refine bodyPost_ret (v := .agg #[.int .i64 p.kind, .string p.text, .int .i64 p.n, .string p.name, .slice ka p.kids.length cap]) (results_five hres ht F) rfl ?_
  unfold RPost
  rw [hr]
  refine ⟨K.step K5 (fun y hy => .inr (by omega)), _, rfl, ⟨S, fun b hb => ⟨(hS b hb).1, Nat.lt_of_lt_of_le (hS b hb).2.1 K5.size⟩, ka, cap, rfl, hz, ?_⟩, R.kept K5 (by omega) (by omega)⟩
  exact hp.kept K5 fun b hb => ⟨(hS b hb).2.1, (hS b hb).2.2⟩
theorem ret_pat {f : Func} (hres : f.results = #[.cell 2 24]) {tmps : Array Value} {M N W : Nat} {s : ByteArray} {d k : Nat} {r : Res PatT} {p : PatT} {w w2 : World} {ka : Option Addr} {cap : Nat} {S : Nat → Prop} {z0 z1 z2 z3 z4 : Value}
    (ht : tmps.getD 2 undef = .pointer (some ⟨M, 0, none⟩)) (F : Five M z0 z1 z2 z3 z4 w2) (R : Rdr N W s k d w2) (K : Kept (· = N) w w2) (hM : w.heap.size ≤ M) (hN : N < w.heap.size) (hW : W < w.heap.size)
    (hr : r = .ok (p, k)) (hz : p.text.size < 1000000000 ∧ p.name.size < 1000000000 ∧ p.kids.length < 1000000000) (hS : ∀ b, S b → w.heap.size ≤ b ∧ b < w2.heap.size ∧ b ≠ M) (hp : PatsAt w2 S ka p.kids) :
    bodyPost Try.prog f (RPost N W s d r (patVal w.heap.size) w) .ret ⟨tmps, []⟩ (set5 w2 M (.int .i64 p.kind) (.string p.text) (.int .i64 p.n) (.string p.name) (.slice ka p.kids.length cap)) :=
  ret_patG hres ht (F.set5 _ _ _ _ _) ((Kept.refl (· = M) w2).set5 (.inl rfl) _ _ _ _ _) R K hM hN hW hr hz hS hp
theorem alloc_same {w w1 : World} {M : Nat} (o : Obj) (h : Kept (· = M) w w1) (hs : w1.heap.size = w.heap.size) : Kept (· = M) (w.alloc o) (w1.alloc o) := by
  refine ⟨h.os, h.tape, h.output, by simp [hs], fun k hk hn => ?_⟩
  simp at hk
  by_cases e : k = w.heap.size
  · subst e
    rw [show (w.alloc o).heap[w.heap.size]? = some o from heap_alloc_new w o, ← hs]; exact heap_alloc_new w1 o
  · rw [Below.heap_alloc _ _ _ (show k < w.heap.size by omega), Below.heap_alloc _ _ _ (show k < w1.heap.size by omega)]
    exact h.block k (by omega) hn
theorem set5_size (w : World) (M : Nat) (c0 c1 c2 c3 c4 : Value) : (set5 w M c0 c1 c2 c3 c4).heap.size = w.heap.size := by simp [set5, World.setCell]
/-- The same where the last thing made is one block more (the walk writes it outermost). -/
theorem ret_patA {f : Func} (hres : f.results = #[.cell 2 24]) {tmps : Array Value} {M N W : Nat} {s : ByteArray} {d k : Nat} {r : Res PatT} {p : PatT} {w w2 : World} {o : Obj} {ka : Option Addr} {cap : Nat} {S : Nat → Prop} {z0 z1 z2 z3 z4 : Value}
    (ht : tmps.getD 2 undef = .pointer (some ⟨M, 0, none⟩)) (F : Five M z0 z1 z2 z3 z4 w2) (R : Rdr N W s k d w2) (K : Kept (· = N) w w2) (hM : w.heap.size ≤ M) (hN : N < w.heap.size) (hW : W < w.heap.size)
    (hr : r = .ok (p, k)) (hz : p.text.size < 1000000000 ∧ p.name.size < 1000000000 ∧ p.kids.length < 1000000000) (hS : ∀ b, S b → w.heap.size ≤ b ∧ b < w2.heap.size + 1 ∧ b ≠ M) (hp : PatsAt (w2.alloc o) S ka p.kids) :
    bodyPost Try.prog f (RPost N W s d r (patVal w.heap.size) w) .ret ⟨tmps, []⟩ ((set5 w2 M (.int .i64 p.kind) (.string p.text) (.int .i64 p.n) (.string p.name) (.slice ka p.kids.length cap)).alloc o) := by
  have k5 : Kept (· = M) w2 (set5 w2 M (.int .i64 p.kind) (.string p.text) (.int .i64 p.n) (.string p.name) (.slice ka p.kids.length cap)) := (Kept.refl (· = M) w2).set5 (.inl rfl) _ _ _ _ _
  refine ret_patG (w2 := w2.alloc o) (S := S) hres ht ((F.set5 _ _ _ _ _).kept ((Kept.refl Nix _).alloc o) (fun h => h)) (alloc_same o k5 (set5_size _ _ _ _ _ _ _)) (R.kept ((Kept.refl Nix w2).alloc o) (fun h => h) (fun h => h)) (K.alloc o) hM hN hW hr hz (fun b hb => ?_) hp
  have := hS b hb; simp; omega
theorem ret_err {α : Type} {f : Func} {a : Act} {N W : Nat} {s : ByteArray} {d : Nat} {r : Res α} {er : Er} {val : α → World → Value → Prop} {w w' : World} (ha : a.defers = []) (hr : r = .error er) (K : Kept (· = N) w w') :
    bodyPost Try.prog f (RPost N W s d r val w) (.panic [{ v := oopsV er, recovered := false }]) a w' := by
  refine ⟨ha, ?_⟩
  unfold RPost; rw [hr]; exact ⟨K, rfl⟩
set_option maxRecDepth 100000 in
set_option maxHeartbeats 1000000 in
theorem prim_lit (N W : Nat) (s : ByteArray) (i d : Nat) (w : World) (inner : Nat → Res PatT) (hr : Rdr N W s i d w) (hi : i ≤ s.size) (hs6 : s.size ≤ 65536) (hc : peek s (skip s i) = 39) :
    Calls Try.prog 60 #[.pointer (some ⟨N, 0, none⟩)] w (RPost N W s d (primaryP inner s i) (patVal w.heap.size) w) := by
  have e0 : Hid (primaryP inner s i = litP s (skip s i)) := by unfold Hid primaryP; rw [if_pos hc]
  have HR := Lib.hid hr
  have hN := hr.lt; have hW := hr.ltW; clear hr
  have hle := skip_le hi
  have hs : s.size ≤ 1000000000 := by omega
  go_enter Try.func60, Try.ntmps60
  go_wp2_with fail
  refine (next_any N W s i d _ (HR.out.kept ((Kept.refl Nix w).alloc _) (fun h => h) (fun h => h)) hi hs).mono ?_
  rintro e w1 ⟨rfl, R1, K1⟩
  have hb : (peek s (skip s i) == 39) = true := by simpa using hc
  have F1 : Hid (Five w.heap.size (.int .i64 0) (.string ⟨#[]⟩) (.int .i64 0) (.string ⟨#[]⟩) (.slice none 0 0) w1) := Five.kept (heap_alloc_new w _) K1 (by omega)
  have K1' : Hid (Kept (· = N) w w1) := ((Kept.refl _ w).alloc _).trans K1
  have RR1 := Lib.hid R1
  clear R1 K1 hc
  go_wp2_with fail
  refine (text_any N W s (skip s i) d _ RR1.out hle hs).mono ?_
  rintro e w2 ⟨K2, h⟩
  have F2 := Lib.hid (F1.out.kept K2 (by omega))
  cases ht : textP s (skip s i) with
  | error er =>
    rw [ht] at h
    obtain rfl := h
    have hr : Hid (primaryP inner s i = .error er) := by unfold Hid; rw [e0.out]; unfold litP; rw [ht]
    clear ht
    go_wp2_with fail
    exact ret_err rfl hr.out (K1'.out.trans K2)
  | ok x =>
    obtain ⟨⟨t, a⟩, k⟩ := x
    rw [ht] at h
    obtain ⟨_, rfl, rfl, R2⟩ := h
    obtain ⟨c0, c1, c2, c3, c4, cf⟩ := F2.out.cells
    have RR2 := Lib.hid R2; clear R2
    have hts : t.size < 1000000000 := by have := text_ok ht; omega
    have hr : Hid (primaryP inner s i = .ok (.mk 1 t 0 E0 [], k)) := by unfold Hid; rw [e0.out]; unfold litP; rw [ht]
    clear ht
    have f0 := cf 0; have f1 := cf 1; have f2 := cf 2; have f3 := cf 3; have f4 := cf 4; clear cf
    go_wp2_with fail
    exact ret_pat (p := .mk 1 t 0 E0 []) (S := Nix) rfl rfl F2.out RR2.out (K1'.out.trans K2) (Nat.le_refl _) hN hW hr.out ⟨hts, e0_lt, len0_lt⟩ (fun b hb => hb.elim) (by unfold PatsAt; trivial)
end Go.Proofs.Ytdnglicgmlldlaa
