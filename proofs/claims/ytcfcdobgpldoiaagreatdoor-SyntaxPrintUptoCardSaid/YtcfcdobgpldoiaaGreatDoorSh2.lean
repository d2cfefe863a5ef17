/- The document's Show. -/
import Derived.Test.YtcfcdobgpldoiaaGreatDoorSm11
import Derived.Test.YtcfcdobgpldoiaaGreatDoorPr4
import Derived.Test.YtcfcdobgpldoiaaGreatDoorLd
import Derived.Test.YtcfcdobgpldoiaaGreatDoorWin
import Derived.Laws.IdiomStrings
namespace Go.Proofs.YtcfcdobgpldoiaaGreatDoor
set_option linter.all false
open Go.RowKit

def byR (d : List UInt8) : List Value := d.map fun b => Value.int .u8 (b.toNat : Int)
theorem infoU8 : (Tryz.prog.info? 5).map (fun i => (i.zero, i.size, i.bytes)) = some (some (.int .u8 0), 1, 1) := by kernel_rfl
theorem wpList_app_str {ops : Array Oper} {rest : List Oper} {o : Oper} {a : Act} {Q : Exit → Act → World → Prop} {w : World} (hgd : o.guard = none) (s x : Operand)
    (ho : o.op = .call { callee := .builtin .append, args := #[s, x], argTypes := #[58, 9] })
    (v : Value) (n : Nat) (d t : List UInt8) (hnd : n = d.length) (hs : a.eval s = v) (B : Nat) (hown : Win w B 5 1 v n (byR d)) (hx : a.eval x = .string ⟨t.toArray⟩) (hn : d.length + t.length ≤ 100000000) (hB : B ≤ w.heap.size)
    (h : ∀ a' c' n' w', Hid (n' = (d ++ t).length) → Win w' B 5 1 (.slice a' n' c') n' (byR (d ++ t)) → Kept (fun b => B ≤ b) w w' → wpList Tryz.prog ops Q rest (a.put o.dst (.slice a' n' c')) w') :
    wpList Tryz.prog ops Q (o :: rest) a w := by
  obtain ⟨i0, hi0, hz0, hz1, hz2⟩ := info_parts infoU8
  have hsz : (⟨t.toArray⟩ : ByteArray).size = t.length := by show t.toArray.size = _; simp
  have hsr := Src.ofString (P := Tryz.prog) w (tx := 9) Tryz.underlying9 ⟨t.toArray⟩
  rw [hsz] at hsr
  refine wpList_append_win w hgd s x _ _ ho B 5 i0 (.int .u8 0) 1 1 Tryz.underlying58 hi0 hz0 hz1 hz2 rfl v n (byR d) hs hown _ t.length _ hx hsr (by unfold maxLen; omega) (by omega) hB ?_
  intro a' c' w' hW hgr _
  have e : byR d ++ byteCells ⟨t.toArray⟩ = byR (d ++ t) := by simp [byR, byteCells]
  rw [e] at hW
  exact h a' c' _ w' (by unfold Hid; rw [List.length_append, hnd]) hW ((Kept.refl _ w).grown hgr fun k hk => .inl (hown.lt k hk).1)
theorem wpList_app_ten {ops : Array Oper} {rest : List Oper} {o : Oper} {a : Act} {Q : Exit → Act → World → Prop} {w : World} (hgd : o.guard = none) (s x : Operand)
    (ho : o.op = .call { callee := .builtin .append, args := #[s, x], argTypes := #[58, 58] })
    (v : Value) (n : Nat) (d : List UInt8) (hnd : n = d.length) (hs : a.eval s = v) (B : Nat) (hown : Win w B 5 1 v n (byR d)) (g : Nat) (hx : a.eval x = .slice (some ⟨g, 0, none⟩) 1 1)
    (hg : w.heap[g]? = some (.cells #[.int .u8 10] 5 (0, 0))) (hn : d.length ≤ 100000000) (hB : B ≤ w.heap.size)
    (h : ∀ a' c' n' w', Hid (n' = (d ++ [10]).length) → Win w' B 5 1 (.slice a' n' c') n' (byR (d ++ [10])) → Kept (fun b => B ≤ b) w w' → wpList Tryz.prog ops Q rest (a.put o.dst (.slice a' n' c')) w') :
    wpList Tryz.prog ops Q (o :: rest) a w := by
  obtain ⟨i0, hi0, hz0, hz1, hz2⟩ := info_parts infoU8
  have hsr : Src Tryz.prog 1 58 (.slice (some ⟨g, 0, none⟩) 1 1) 1 [.int .u8 10] w :=
    Src.ofSlice _ Tryz.underlying58 _ _ _ _ rfl (World.news_of_block (fr := (0, 0)) (cs := #[.int .u8 10]) hg) (by intro u hu; simp only [List.mem_singleton] at hu; subst hu; rfl)
  refine wpList_append_win w hgd s x _ _ ho B 5 i0 (.int .u8 0) 1 1 Tryz.underlying58 hi0 hz0 hz1 hz2 rfl v n (byR d) hs hown _ 1 _ hx hsr (by unfold maxLen; omega) (by omega) hB ?_
  intro a' c' w' hW hgr _
  have e : byR d ++ [Value.int .u8 10] = byR (d ++ [10]) := by simp [byR]
  rw [e] at hW
  exact h a' c' _ w' (by unfold Hid; rw [List.length_append, hnd]; rfl) hW ((Kept.refl _ w).grown hgr fun k hk => .inl (hown.lt k hk).1)
theorem conv_win {w : World} {B n c : Nat} {a : Option Addr} {d : List UInt8} (hW : Win w B 5 1 (.slice a n c) n (byR d)) (hnd : n = d.length) :
    (convert 58 9 (.slice a n c)).run Tryz.prog w = .ok (.string ⟨d.toArray⟩) w := by
  rcases hW.cells with ⟨hv, h0⟩ | ⟨g, o, cap, hv, _, _, _, _, hc⟩
  · simp only [Value.slice.injEq] at hv
    obtain ⟨rfl, _, rfl⟩ := hv
    subst h0
    obtain rfl : d = [] := List.eq_nil_of_length_eq_zero hnd.symm
    rw [run_convert_bytes_string w 58 9 5 none 0 0 Tryz.underlying58 Tryz.underlying5 Tryz.underlying9]
    simp [Conv.bytesToString]
    rfl
  · simp only [Value.slice.injEq, true_and] at hv
    obtain ⟨rfl, rfl⟩ := hv
    subst hnd
    refine run_convert_bytes_back w 58 9 5 ⟨g, o, none⟩ c d Tryz.underlying58 Tryz.underlying5 Tryz.underlying9 fun j hj => ?_
    have e1 : (⟨g, o, none⟩ : Addr).add j = ⟨g, o + j, none⟩ := by unfold Addr.add; split <;> simp_all
    rw [e1]
    exact (hc j _ (by simp [byR, List.getElem?_eq_getElem hj])).1

structure RwI (B : Nat) (l : List StT) (w2 : World) (j : Nat) (d : List UInt8) (v : Value) (n : Nat) (wr : World) : Prop where
  eq : showAt (l.drop j) j d = progS l
  len : d.length ≤ 2001 * j
  num : n = d.length
  win : Win wr B 5 1 v n (byR d)
  keep : Kept (fun b => B ≤ b) w2 wr
set_option maxRecDepth 100000 in
set_option maxHeartbeats 8000000 in
theorem rshow_any (l : List StT) (al : Option Addr) (cl : Nat) (w : World) (hl : StsX w (· < w.heap.size) al l) (hlen : l.length ≤ 1048576) (hg : GlobW w) :
    Calls Tryz.prog 11 #[.slice al l.length cl] w (ShowPQ l w) := by
  obtain ⟨w1, hw1⟩ : ∃ w1, w1 = w.alloc (.cells #[.int .i64 0, .int .i64 0] 38) := ⟨_, rfl⟩
  have k1 : Kept Nix w w1 := by rw [hw1]; exact (Kept.refl Nix w).alloc _
  have F1 : Hid (Fl w.heap.size 0 0 w1) := by rw [hw1]; exact heap_alloc_new w _
  have HZ1 : Hid (w1.heap.size = w.heap.size + 1) := by unfold Hid; rw [hw1]; simp
  have HW1 := Lib.hid hw1; have K1 := Lib.hid k1; have HL := Lib.hid hl; have HG := Lib.hid hg
  clear hw1 k1 hl hg
  obtain ⟨F, hF⟩ : ∃ F, F = w.heap.size := ⟨_, rfl⟩
  rw [← hF] at F1
  have HF := Lib.hid hF
  clear hF
  by_cases hc : 1000 < l.length
  · have fin : Hid (progS l = ([], 5, 0)) := by unfold Hid progS; rw [if_pos hc]
    have d1 : decide ((1000 : Int) < (l.length : Int)) = true := decide_eq_true (by omega)
    have d2 : decide (1000 < l.length) = true := decide_eq_true hc
    clear hc
    go_enter Tryz.func11, Tryz.ntmps11
    go_upto_region 1 with fail
    rw [← HW1.out, ← HF.out]
    obtain ⟨f0, f1, f2, f3⟩ := F1.out.cells
    go_wp2_with fail
    exact ret_show rfl rfl rfl (F1.out.set _ _) ⟨by rw [fin.out] <;> rfl, K1.out.step (((Kept.refl (· = F) _).setCell (p := ⟨F, 0, none⟩) (.inl rfl) _).setCell (p := ⟨F, 1, none⟩) (.inl rfl) _) (fun y hy => .inr (by subst hy; exact Nat.le_of_eq HF.out.symm))⟩
  have HP0 : Hid (showAt (l.drop 0) 0 [] = progS l) := by unfold Hid progS; rw [if_neg hc, List.drop_zero]
  have d1 : decide ((1000 : Int) < (l.length : Int)) = false := decide_eq_false (by omega)
  have d2 : decide (1000 < l.length) = false := decide_eq_false hc
  have HC : Hid (l.length ≤ 1000) := Nat.not_lt.1 hc
  obtain ⟨B, hB⟩ : ∃ B, B = w1.heap.size := ⟨_, rfl⟩
  have HFB : Hid (F < B) := by rw [hB]; unfold Hid; have := HZ1.out; have := HF.out; omega
  have HB := Lib.hid hB
  clear hc hB
  go_enter Tryz.func11, Tryz.ntmps11
  go_upto_region 1 with fail
  rw [← HW1.out, ← HF.out]
  go_upto_region 5 with fail
  clear HW1 d1 d2
  go_loopw [4, 15] (fun v i wr => ∃ (j : Nat) (d : List UInt8) (n : Nat) (aa : Option Addr) (cc : Nat), j ≤ l.length ∧ v = .slice aa n cc ∧ i = .int .i64 j ∧ Hid (RwI B l w1 j d (.slice aa n cc) n wr)) (fun _ i _ => l.length - (intOf i).toNat)
  case atStart => exact ⟨0, [], 0, none, 0, Nat.zero_le _, rfl, rfl, ⟨HP0.out, Nat.zero_le _, rfl, Win.nil .., Kept.refl _ _⟩⟩
  case round =>
    obtain ⟨j, d, n, aa, cc, hj, rfl, rfl, I0⟩ := hrel
    have KR : Hid (Kept Nix w wr) := K1.out.step I0.out.keep (fun y hy => .inr (by have : B ≤ y := hy; have := HFB.out; have := HF.out; omega))
    have FR := Lib.hid (F1.out.kept I0.out.keep (by have := HFB.out; omega))
    have HDL : Hid (d.length ≤ 2001000) := by have := I0.out.len; have := HC.out; unfold Hid; omega
    by_cases hlt : j < l.length
    · obtain ⟨b, o, rfl, hcl⟩ := (HL.out.to KR.out (Safe.lt (Nat.le_refl _)) (fun _ h => h)) (by omega)
      obtain ⟨a, hx, hSb, hz, hcc, ho⟩ := hcl j hlt
      have hbad := showAt_bad l j d hlt
      have hok := showAt_ok l j d hlt
      have hpl := printS_len l[j]
      obtain ⟨s, hsd⟩ : ∃ s, s = l[j] := ⟨_, rfl⟩
      rw [← hsd] at hx hz hcc ho hbad hok hpl
      have HX := Lib.hid hx; have HZ := Lib.hid hz; have HO := Lib.hid ho; have HBAD := Lib.hid hbad; have HOK := Lib.hid hok
      have hBs : Hid (B ≤ wr.heap.size) := by have := I0.out.keep.size; have := HB.out; unfold Hid; omega
      clear hcl hx hz ho hsd hSb hbad hok
      go_upto_region 7 with (first
        | (refine wpList_load_st rfl _ rfl b (o + j * 24) rfl a s hcc ?_)
        | (refine wpList_store_st rfl _ _ rfl wr.heap.size rfl a s rfl _ (heap_alloc_new wr _) rfl ?_; intro w6 hB6 hk6; have KA6 : Hid (Kept Nix wr w6) := ((Kept.refl Nix wr).alloc _).step hk6 (fun y hy => .inr (by subst hy; exact Nat.le_refl _)); have HB6 := Lib.hid hB6; clear hB6 hk6))
      obtain ⟨M, hM⟩ : ∃ M, M = wr.heap.size := ⟨_, rfl⟩
      rw [← hM] at HB6 ⊢
      have HBM : Hid (B ≤ M) := by rw [hM]; exact hBs.out
      have HHC := Lib.hid (stB_hc HB6.out)
      have HSP := Lib.hid (refPrint_st s a w6 HZ.out (HO.out.to KA6.out (Safe.lt KR.out.size) (fun x h => Nat.lt_of_lt_of_le h (KR.out.trans KA6.out).size)) HX.out (HG.out.next (KR.out.trans KA6.out)))
      clear hM hcc HO HX
      obtain ⟨pt, hpt⟩ : ∃ pt, pt = (printS s).1 := ⟨_, rfl⟩
      obtain ⟨pe, hpe⟩ : ∃ pe, pe = (printS s).2 := ⟨_, rfl⟩
      rw [← hpt, ← hpe] at HOK
      rw [← hpe] at HBAD
      rw [← hpt] at hpl
      have HPT := Lib.hid hpt; have HPE := Lib.hid hpe
      clear hpt hpe
      go_upto_region 8 with (first
        | (refine wpList_load_st rfl _ rfl M 0 rfl a s HHC.out ?_)
        | (go_at_call 9; (refine HSP.out.mono ?_); rintro e w7 ⟨rfl, k7_⟩; rw [← HPT.out, ← HPE.out]; have K67 := Lib.hid (KA6.out.trans k7_); clear k7_))
      have FR7 := Lib.hid (FR.out.kept K67.out (fun h => h))
      have W7 : Hid (Win w7 B 5 1 (.slice aa n cc) n (byR d)) := I0.out.win.kept K67.out (fun _ _ h => h)
      have HB7 : Hid (B ≤ w7.heap.size) := by have := K67.out.size; have := hBs.out; unfold Hid; omega
      have K7 := Lib.hid (KR.out.trans K67.out)
      clear FR HSP HHC HB6
      by_cases hpe0 : pe = 0
      · have z : (pe != 0) = false := by simp [hpe0]
        have step := Lib.hid (HOK.out hpe0)
        clear hpe0
        go_wp2_with (first
          | (refine wpList_app_str rfl _ _ rfl _ n d pt I0.out.num rfl B W7.out rfl (by have := HDL.out; omega) HB7.out ?_; intro a8 c8 n8 w8 hn8 hW8 hk8; have W8 := Lib.hid (hW8.alloc (.cells #[.int .u8 10] 5)); have K8 : Hid (Kept (fun b => B ≤ b) w7 (w8.alloc (.cells #[.int .u8 10] 5))) := hk8.alloc _; have HB8 : Hid (B ≤ (w8.alloc (.cells #[.int .u8 10] 5)).heap.size) := Nat.le_trans HB7.out K8.out.size; clear hW8 hk8)
          | (refine wpList_app_ten rfl _ _ rfl _ n8 (d ++ pt) hn8.out rfl B W8.out _ rfl (heap_alloc_new w8 _) (by have := HDL.out; simp only [List.length_append]; omega) HB8.out ?_; intro a9 c9 n9 w9 hn9 hW9 hk9; have W9 := Lib.hid hW9; have K9 := Lib.hid hk9; clear hW9 hk9))
        go_roundw
        case rel =>
          refine ⟨j + 1, d ++ (pt ++ [10]), n9, _, _, by omega, rfl, by go_num, ⟨by rw [← step.out]; exact I0.out.eq, ?_, by rw [← List.append_assoc]; exact hn9.out, by rw [← List.append_assoc]; exact W9.out, ?_⟩⟩
          · have := I0.out.len; simp only [List.length_append, List.length_cons, List.length_nil]; omega
          · exact ((I0.out.keep.trans (K67.out.more (fun _ h => h.elim))).trans K8.out).trans K9.out
        case measure => simp [intOf]; omega
      · have z : (pe != 0) = true := by simpa using hpe0
        have fin : Hid (progS l = ([], pe, j)) := by unfold Hid; rw [← I0.out.eq, HBAD.out hpe0]
        obtain ⟨f0, f1, f2, f3⟩ := FR7.out.cells
        clear hpe0
        go_wp2_with fail
        exact ret_show rfl rfl rfl (FR7.out.set _ _) ⟨by rw [fin.out] <;> rfl, K7.out.step (((Kept.refl (· = F) _).setCell (p := ⟨F, 0, none⟩) (.inl rfl) _).setCell (p := ⟨F, 1, none⟩) (.inl rfl) _) (fun y hy => .inr (by subst hy; exact Nat.le_of_eq HF.out.symm))⟩
    · obtain rfl : j = l.length := by omega
      have fin0 : Hid (progS l = if 65536 < d.length then ([], 4, 0) else (d, 0, 0)) := by unfold Hid; rw [← I0.out.eq]; exact showAt_end l d
      obtain ⟨f0, f1, f2, f3⟩ := FR.out.cells
      have HNUM := Lib.hid I0.out.num
      have hcv := conv_win I0.out.win I0.out.num
      by_cases hbig : 65536 < n
      · have x1 : decide ((65536 : Int) < (n : Int)) = true := decide_eq_true (by omega)
        have x2 : decide (65536 < n) = true := decide_eq_true hbig
        have fin : Hid (progS l = ([], 4, 0)) := by unfold Hid; rw [fin0.out, if_pos (by have := HNUM.out; omega)]
        clear hbig hcv
        go_wp2_with fail
        exact ret_show rfl rfl rfl (FR.out.set _ _) ⟨by rw [fin.out] <;> rfl, KR.out.step (((Kept.refl (· = F) _).setCell (p := ⟨F, 0, none⟩) (.inl rfl) _).setCell (p := ⟨F, 1, none⟩) (.inl rfl) _) (fun y hy => .inr (by subst hy; exact Nat.le_of_eq HF.out.symm))⟩
      · have x1 : decide ((65536 : Int) < (n : Int)) = false := decide_eq_false (by omega)
        have x2 : decide (65536 < n) = false := decide_eq_false hbig
        have fin : Hid (progS l = (d, 0, 0)) := by unfold Hid; rw [fin0.out, if_neg (by have := HNUM.out; omega)]
        clear hbig
        go_wp2_with fail
        exact ret_show rfl rfl rfl (FR.out.set _ _) ⟨by rw [fin.out] <;> rfl, KR.out.step (((Kept.refl (· = F) _).setCell (p := ⟨F, 0, none⟩) (.inl rfl) _).setCell (p := ⟨F, 1, none⟩) (.inl rfl) _) (fun y hy => .inr (by subst hy; exact Nat.le_of_eq HF.out.symm))⟩
end Go.Proofs.YtcfcdobgpldoiaaGreatDoor
