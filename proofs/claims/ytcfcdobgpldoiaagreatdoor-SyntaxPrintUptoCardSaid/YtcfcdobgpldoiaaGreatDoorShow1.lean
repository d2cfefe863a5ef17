/- The document's Word, Quoted, Digits. -/
import Derived.Test.YtcfcdobgpldoiaaGreatDoorQuote
import Derived.Test.YtcfcdobgpldoiaaGreatDoorSm12
import Derived.Test.YtcfcdobgpldoiaaGreatDoorRef4a
namespace Go.Proofs.YtcfcdobgpldoiaaGreatDoor
set_option linter.all false
open Go.RowKit

def w25 : List ByteArray := wordsL ++ [⟨#[]⟩, ⟨#[]⟩, ⟨#[]⟩, ⟨#[]⟩]
def w25At (k : Nat) : ByteArray := wordsL.getD k ByteArray.empty
theorem w25_at (k : Nat) (hk : k ≤ 20) (w : World) : (w.alloc (.cells (w25.map Value.string).toArray 9 (0, 0))).cell? ⟨w.heap.size, k, none⟩ = some (.string (w25At k)) := by
  rw [World.cell?_alloc_mark]
  have h : k < w25.length := by show k < 25; omega
  have e : w25[k]? = some (w25At k) := by
    unfold w25 w25At
    have h2 : k < wordsL.length := by show k < 21; omega
    rw [List.getElem?_append_left h2, List.getD_eq_getElem?_getD, List.getElem?_eq_getElem h2]; rfl
  simp [e]
set_option maxRecDepth 100000 in
set_option maxHeartbeats 1000000 in
theorem sword_any (k : Nat) (hk : k ≤ 20) (w : World) : Calls Tryz.prog 62 #[.int .i64 k] w (StrQ (wordL k) w) := by
  have hc := w25_at k hk w
  obtain ⟨w1, hw1⟩ : ∃ w1, w1 = w.alloc (.cells (w25.map Value.string).toArray 9 (0, 0)) := ⟨_, rfl⟩
  have K : Hid (Kept Nix w w1) := by rw [hw1]; exact (Kept.refl _ _).alloc _
  rw [← hw1] at hc
  have HW := Lib.hid hw1
  clear hw1
  have hb : (k : Int) < 25 := by omega
  go_enter Tryz.func62, Tryz.ntmps62
  go_upto_region 2 with fail
  have e1 : w1 = w.alloc (.cells #[.string ⟨#[]⟩, .string ⟨#[]⟩, .string ⟨#[76, 69, 78]⟩, .string ⟨#[65, 78, 89]⟩, .string ⟨#[78, 79, 84, 65, 78, 89]⟩, .string ⟨#[83, 80, 65, 78]⟩, .string ⟨#[66, 82, 69, 65, 75]⟩, .string ⟨#[66, 82, 69, 65, 75, 88]⟩, .string ⟨#[84, 65, 66]⟩, .string ⟨#[82, 84, 65, 66]⟩, .string ⟨#[80, 79, 83]⟩, .string ⟨#[82, 80, 79, 83]⟩, .string ⟨#[82, 69, 77]⟩, .string ⟨#[65, 82, 66]⟩, .string ⟨#[66, 65, 76]⟩, .string ⟨#[70, 65, 73, 76]⟩, .string ⟨#[70, 69, 78, 67, 69]⟩, .string ⟨#[65, 66, 79, 82, 84]⟩, .string ⟨#[]⟩, .string ⟨#[]⟩, .string ⟨#[65, 82, 66, 78, 79]⟩, .string ⟨#[]⟩, .string ⟨#[]⟩, .string ⟨#[]⟩, .string ⟨#[]⟩] 9) := HW.out
  rw [← e1]
  clear e1
  go_wp2_with fail
  go_ret
  exact ⟨congrArg (fun b => Ending.returned (.string b)) (show w25At k = ⟨(wordL k).toArray⟩ by unfold w25At wordL; simp), K.out⟩

def dup1 (c : UInt8) : List UInt8 := if c = 39 then [39, 39] else [c]
theorem dupQ_flat : ∀ l : List UInt8, dupQ l = l.flatMap dup1
  | [] => rfl
  | c :: r => by rw [dupQ, List.flatMap_cons, ← dupQ_flat r]; unfold dup1; split <;> rfl
theorem dup_take (s : ByteArray) (j : Nat) (hj : j < s.size) : dupQ (s.data.toList.take (j + 1)) = dupQ (s.data.toList.take j) ++ dup1 s[j] := by
  rw [dupQ_flat, dupQ_flat, List.take_succ_eq_append_getElem (by simpa using hj), List.flatMap_append]
  simp only [List.flatMap_cons, List.flatMap_nil, List.append_nil]
  rfl
set_option maxRecDepth 100000 in
set_option maxHeartbeats 4000000 in
theorem squoted_any (t : ByteArray) (w : World) (ht : t.size ≤ 100000) : Calls Tryz.prog 47 #[.string t] w (StrQ (quoteL t) w) := by
  obtain ⟨i0, hi0, hz0, hz1, hz2⟩ := info_parts Tryz.infoB
  have hcv := run_bytes_of_string (P := Tryz.prog) w 9 58 5 t Tryz.underlying9 Tryz.underlying58 Tryz.underlying5
  obtain ⟨w1, hw1⟩ : ∃ w1, w1 = (w.drew.alloc (.cells (bytesRow t (grownCap w t.size 0 5)) 5 ((bytesRow t (grownCap w t.size 0 5)).size, (bytesRow t (grownCap w t.size 0 5)).size + 1))) := ⟨_, rfl⟩
  rw [← hw1] at hcv
  generalize grownCap w t.size 0 5 = gc at hcv hw1
  have hK : Kept Nix w w1 := by rw [hw1]; exact ((Kept.refl Nix w).drew).alloc _
  have hs1 : w1.heap.size = w.heap.size + 1 := by
    rw [hw1]; exact (by simp : (w.drew.alloc _).heap.size = w.drew.heap.size + 1)
  have hcell : ∀ j (h : j < t.size), w1.cell? ⟨w.heap.size, j, none⟩ = some (.int .u8 t[j].toNat) := by
    intro j h; rw [hw1]; show ((w.drew.alloc _).cell? ⟨w.drew.heap.size, j, none⟩) = _
    rw [World.cell?_alloc_mark, bytesRow_at t gc j h]; rfl
  have HK := Lib.hid hK; have HC := Lib.hid hcell
  clear hw1 hK hcell
  go_enter Tryz.func47, Tryz.ntmps47
  go_wp2_with fail
  go_loopw [3, 9] (fun v i wr => ∃ (j : Nat) (bs : List UInt8) (a : Option Addr) (c : Nat), j ≤ t.size ∧ i = .int .i64 j ∧ v = .slice a bs.length c ∧ bs.length ≤ 2 * j ∧ Hid (bs = dupQ (t.data.toList.take j)) ∧ Hid (Win wr w1.heap.size 5 1 v bs.length (byteCs bs)) ∧ Hid (Kept Nix w1 wr)) (fun _ i _ => t.size - (intOf i).toNat)
  case atStart => exact ⟨0, [], none, 0, Nat.zero_le _, rfl, rfl, by simp, by simp [Hid, dupQ], Win.nil _ _ _ _, Kept.refl _ _⟩
  case round =>
    obtain ⟨j, bs, a, c, hj, rfl, rfl, hbl, hbs, hW, hK⟩ := hrel
    by_cases hlt : j < t.size
    · have hcell := (hK.out.cell (by omega) (fun h => h)).trans (HC.out j hlt)
      have hst := Lib.hid (dup_take t j hlt)
      have hown : ∀ g, (Value.slice a bs.length c).ownBlock = some g → w1.heap.size ≤ g := fun g hg => (hW.out.lt g hg).1
      have HOW := Lib.hid hown
      have hsz := hK.out.size
      clear hown
      generalize t[j] = ch at *
      have Wb := Lib.hid (hW.out.alloc (.cells #[.int .u8 ch.toNat] 5))
      go_upto_region 6 with (at_builtin; go_loud (refine wpList_append_win _ rfl (.tmp 13) (.tmp 15) 58 58 rfl w1.heap.size 5 i0 (.int .u8 0) 1 1 Tryz.underlying58 hi0 hz0 hz1 hz2 rfl (.slice a bs.length c) bs.length (byteCs bs) rfl Wb.out _ 1 [.int .u8 (ch.toNat : Int)] rfl (Src.ofSlice _ Tryz.underlying58 _ _ _ _ rfl (World.news_of_block (fr := (0, 0)) (cs := #[.int .u8 (ch.toNat : Int)]) (heap_alloc_new wr _)) (by intro u hu; simp at hu; subst hu; rfl)) (by unfold maxLen; omega) (by omega) (by simp; omega) ?_); intro a3 c3 w3 hW3 hg3 ho3)
      have K3 : Hid (Kept Nix w1 w3) := Kept.grown (hK.out.alloc _) hg3 (fun b hb => .inr (HOW.out b hb))
      have W3 : Hid (Win w3 w1.heap.size 5 1 (.slice a3 (bs ++ [ch]).length c3) (bs ++ [ch]).length (byteCs (bs ++ [ch]))) := by
        have e1 : byteCs (bs ++ [ch]) = byteCs bs ++ [.int .u8 (ch.toNat : Int)] := by simp [byteCs]
        unfold Hid; rw [e1, List.length_append]; exact hW3
      have hs3 := K3.out.size
      have el : (bs ++ [ch]).length = bs.length + 1 := by simp
      clear hW3 hg3 ho3 Wb HOW
      have hev : (Value.slice a3 (bs.length + 1) c3) = .slice a3 (bs ++ [ch]).length c3 := by rw [el]
      rw [hev]; clear hev
      by_cases hc : ch = 39
      · have hce : ((ch.toNat : Int) == 39) = true := by subst hc; decide
        have hown3 : ∀ g, (Value.slice a3 (bs ++ [ch]).length c3).ownBlock = some g → w1.heap.size ≤ g := fun g hg => (W3.out.lt g hg).1
        have HOW := Lib.hid hown3
        have Wb := Lib.hid (W3.out.alloc (.cells #[.int .u8 ch.toNat] 5))
        have hd : Hid (dup1 ch = [ch, ch]) := by unfold Hid dup1; rw [if_pos hc, hc]
        clear hc hown3
        go_wp2_with (at_builtin; go_loud (refine wpList_append_win _ rfl (.tmp 19) (.tmp 21) 58 58 rfl w1.heap.size 5 i0 (.int .u8 0) 1 1 Tryz.underlying58 hi0 hz0 hz1 hz2 rfl (.slice a3 (bs ++ [ch]).length c3) (bs ++ [ch]).length (byteCs (bs ++ [ch])) rfl Wb.out _ 1 [.int .u8 (ch.toNat : Int)] rfl (Src.ofSlice _ Tryz.underlying58 _ _ _ _ rfl (World.news_of_block (fr := (0, 0)) (cs := #[.int .u8 (ch.toNat : Int)]) (heap_alloc_new w3 _)) (by intro u hu; simp at hu; subst hu; rfl)) (by unfold maxLen; omega) (by omega) (by simp; omega) ?_); intro a4 c4 w4 hW4 hg4 ho4)
        have K4 : Hid (Kept Nix w1 w4) := Kept.grown (K3.out.alloc _) hg4 (fun b hb => .inr (HOW.out b hb))
        have W4 : Hid (Win w4 w1.heap.size 5 1 (.slice a4 ((bs ++ [ch]) ++ [ch]).length c4) ((bs ++ [ch]) ++ [ch]).length (byteCs ((bs ++ [ch]) ++ [ch]))) := by
          have e1 : byteCs ((bs ++ [ch]) ++ [ch]) = byteCs (bs ++ [ch]) ++ [.int .u8 (ch.toNat : Int)] := by simp [byteCs]
          unfold Hid; rw [e1, List.length_append]; exact hW4
        have fin : Hid ((bs ++ [ch]) ++ [ch] = dupQ (t.data.toList.take (j + 1))) := by unfold Hid; rw [hst.out, hd.out, ← hbs.out]; simp
        have el4 : ((bs ++ [ch]) ++ [ch]).length = (bs ++ [ch]).length + 1 := by simp
        clear hW4 hg4 ho4 Wb HOW
        go_wp2_with fail
        go_roundw
        case rel => exact ⟨j + 1, (bs ++ [ch]) ++ [ch], a4, c4, by omega, by go_num, by rw [el4, el], by omega, fin, by have h := W4.out; rw [el4, el] at h ⊢; exact h, K4⟩
        case measure => simp [intOf]; omega
      · have hce : ((ch.toNat : Int) == 39) = false := by
          have : ch.toNat ≠ 39 := fun h => hc (UInt8.toNat_inj.1 h)
          simp; omega
        have fin : Hid (bs ++ [ch] = dupQ (t.data.toList.take (j + 1))) := by unfold Hid; rw [hst.out, ← hbs.out]; unfold dup1; rw [if_neg hc]
        clear hc
        go_wp2_with fail
        go_roundw
        case rel => exact ⟨j + 1, bs ++ [ch], a3, c3, by omega, by go_num, rfl, by omega, fin, W3, K3⟩
        case measure => simp [intOf]; omega
    · obtain rfl : j = t.size := by omega
      have hcv2 := Win.conv hW.out
      have hlen : bs.length ≤ 200000 := by omega
      have fin : Hid (bs = dupQ t.data.toList) := by
        have := hbs.out; rw [List.take_of_length_le (by exact Nat.le_refl _)] at this; exact this
      have KK := Lib.hid (HK.out.trans hK.out)
      go_wp2_with fail
      go_ret
      have e : ((⟨#[39]⟩ : ByteArray) ++ ⟨bs.toArray⟩ ++ ⟨#[39]⟩) = ⟨(quoteL t).toArray⟩ := by
        rw [str39, app_str, app_str, fin.out]; simp [quoteL]
      exact ⟨congrArg (fun b => Ending.returned (.string b)) e, KK.out⟩
theorem rune_str (u : Nat) (hu : u < 10) : Utf8.encode (48 + (u : Int)) = ⟨[UInt8.ofNat (48 + u)].toArray⟩ := by
  have h : ∀ i : Fin 10, Utf8.encode (48 + (i.val : Int)) = ⟨[UInt8.ofNat (48 + i.val)].toArray⟩ := by decide
  exact h ⟨u, hu⟩
theorem rune_int (v : Int) (h0 : 0 ≤ v) (h1 : v < 10) : Utf8.encode (48 + v) = ⟨[UInt8.ofNat (48 + v.toNat)].toArray⟩ := by
  have := rune_str v.toNat (by omega)
  rwa [Int.toNat_of_nonneg h0] at this
set_option maxRecDepth 100000 in
set_option maxHeartbeats 400000 in
theorem sdigits_any : ∀ (f : Nat) (v : Int), 0 ≤ v → v < f → v ≤ 65536 → ∀ w : World, Calls Tryz.prog 63 #[.int .i64 v] w (StrQ (Lib.decDigits v.toNat) w) := by
  intro f
  induction f with
  | zero => intro v h0 h1; omega
  | succ f ih =>
    intro v h0 hu h6 w
    have HI := Lib.hid ih; clear ih
    by_cases hs : v < 10
    · have hd : decide (v < 10) = true := decide_eq_true hs
      have hr := Lib.hid (rune_int v h0 hs)
      have he : Hid (Lib.decDigits v.toNat = [UInt8.ofNat (48 + v.toNat)]) := by unfold Hid; rw [Lib.decDigits, dif_pos (by omega)]
      go_enter Tryz.func63, Tryz.ntmps63
      go_wp2_with fail
      go_ret
      exact ⟨congrArg (fun b => Ending.returned (.string b)) (by rw [he.out]; exact hr.out), Kept.refl _ _⟩
    · have hd : decide (v < 10) = false := decide_eq_false hs
      have hr := Lib.hid (rune_int (v % 10) (by omega) (by omega))
      have he : Hid (Lib.decDigits v.toNat = Lib.decDigits (v / 10).toNat ++ [UInt8.ofNat (48 + (v % 10).toNat)]) := by
        unfold Hid; rw [Lib.decDigits, dif_neg (by omega), show (v / 10).toNat = v.toNat / 10 by omega, show (v % 10).toNat = v.toNat % 10 by omega]
      have hdl := dec_len 5 (v / 10).toNat (by omega)
      have HI2 := Lib.hid (HI.out (v / 10) (by omega) (by omega) (by omega) w)
      clear hs
      go_enter Tryz.func63, Tryz.ntmps63
      go_wp2_with fail
      refine (HI2.out).mono ?_
      rintro e w1 ⟨rfl, K1⟩
      generalize Lib.decDigits (v / 10).toNat = dd at *
      have hes : (Utf8.encode (48 + v % 10)).size = 1 := by rw [hr.out]; rfl
      go_wp2_with fail
      go_ret
      have fin : (⟨dd.toArray⟩ : ByteArray) ++ Utf8.encode (48 + v % 10) = ⟨(Lib.decDigits v.toNat).toArray⟩ := by rw [hr.out, app_str, he.out]
      exact ⟨congrArg (fun b => Ending.returned (.string b)) fin, K1⟩
end Go.Proofs.YtcfcdobgpldoiaaGreatDoor
