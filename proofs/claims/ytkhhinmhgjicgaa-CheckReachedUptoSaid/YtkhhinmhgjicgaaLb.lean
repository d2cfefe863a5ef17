/- The document's Label, Func: which statement a label stands at, which one defines a function. -/
import Derived.Test.YtkhhinmhgjicgaaCm9
import Derived.Test.YtkhhinmhgjicgaaSt5
import Derived.Test.YtkhhinmhgjicgaaLd
namespace Go.Proofs.Ytkhhinmhgjicgaa
set_option linter.all false
open Go.RowKit

def labelGo (n : ByteArray) : Nat → List StT → Int
  | _, [] => -1
  | i, s :: r => if s.label = n ∧ n.size ≠ 0 then (i : Int) else labelGo n (i + 1) r
/-- At which statement a label stands (below 0: at none). -/
def labelF (l : List StT) (n : ByteArray) : Int := labelGo n 0 l
def funcGo (n : ByteArray) : Nat → List StT → Int
  | _, [] => -1
  | i, s :: r => if s.kind = 7 ∧ s.name = n then (i : Int) else funcGo n (i + 1) r
/-- Which statement defines a function (below 0: none). -/
def funcF (l : List StT) (n : ByteArray) : Int := funcGo n 0 l
theorem labelGo_drop (n : ByteArray) (l : List StT) (j : Nat) (h : j < l.length) : labelGo n j (l.drop j) = if l[j].label = n ∧ n.size ≠ 0 then (j : Int) else labelGo n (j + 1) (l.drop (j + 1)) := by
  rw [List.drop_eq_getElem_cons h, labelGo]
theorem funcGo_drop (n : ByteArray) (l : List StT) (j : Nat) (h : j < l.length) : funcGo n j (l.drop j) = if l[j].kind = 7 ∧ l[j].name = n then (j : Int) else funcGo n (j + 1) (l.drop (j + 1)) := by
  rw [List.drop_eq_getElem_cons h, funcGo]
theorem bytes_beq {a b : ByteArray} : (a.toList == b.toList) = decide (a = b) := by
  rw [Bool.eq_iff_iff, decide_eq_true_eq, beq_iff_eq, ByteArray.toList_eq, ByteArray.toList_eq]
  constructor
  · intro h
    obtain ⟨x⟩ := a; obtain ⟨y⟩ := b
    have : x = y := by rw [← Array.toList_inj]; exact h
    rw [this]
  · rintro rfl; rfl

set_option maxRecDepth 100000 in
set_option maxHeartbeats 2000000 in
theorem label_any (l : List StT) (al : Option Addr) (cl : Nat) (n : ByteArray) (S : Nat → Prop) (w : World) (hl : StsAt w S al l) (hS : Safe S Nix w.heap.size) (hlen : l.length ≤ 1048576) :
    Calls Try.prog 22 #[.slice al l.length cl, .string n] w (IntQ (labelF l n) w) := by
  have HL := Lib.hid hl; have HS := Lib.hid hS
  clear hl hS
  have hne : n.toList.isEmpty = decide (n.size = 0) := by rw [Bool.eq_iff_iff, isEmpty_size, decide_eq_true_eq]
  go_enter Try.func22, Try.ntmps22
  go_wp2_with fail
  go_loopw [9] (fun i wr => ∃ j : Nat, j ≤ l.length ∧ i = .int .i64 j ∧ Hid (labelF l n = labelGo n j (l.drop j)) ∧ Kept Nix w wr) (fun i _ => l.length - (intOf i).toNat)
  case atStart => exact ⟨0, Nat.zero_le _, rfl, by unfold Hid labelF; rw [List.drop_zero], Kept.refl _ _⟩
  case round =>
    obtain ⟨j, hj, rfl, hno, hkw⟩ := hrel
    have KW := Lib.hid hkw
    by_cases hlt : j < l.length
    · obtain ⟨b, o, rfl, hc⟩ := (HL.out.to hkw HS.out (fun _ h => h)) (by omega)
      obtain ⟨a, _, _, hcc, _⟩ := hc j hlt
      have hd := labelGo_drop n l j hlt
      clear hc hkw
      by_cases he : l[j].label = n
      · have e1 : (l[j].label.toList == n.toList) = true := by rw [bytes_beq]; simpa using he
        by_cases h0 : n.size = 0
        · rw [if_neg (by simp [h0])] at hd
          have e2 : n.toList.isEmpty = true := by rw [hne]; simpa using h0
          have step := Lib.hid (hno.out.trans hd)
          clear hd h0 hne he
          go_wp2_with (first
            | (refine wpList_load_st rfl _ rfl b (o + j * 24) rfl a l[j] hcc ?_)
            | (refine wpList_store_st rfl _ _ rfl wr.heap.size rfl a l[j] rfl _ (heap_alloc_new wr _) rfl ?_; intro w2 hB2 hk2; have KA : Hid (Kept Nix w w2) := (KW.out.alloc _).step hk2 (fun y hy => .inr (by subst hy; exact KW.out.size)); obtain ⟨c0, c1, _, _, _, _, _, _, _, _, _, _, _, _, _, _, _, c17, _⟩ := hB2.cells; clear hB2 hk2))
          go_roundw
          case rel => exact ⟨j + 1, by omega, by go_num, step, KA.out⟩
          case measure => simp [intOf]; omega
        · rw [if_pos ⟨he, h0⟩] at hd
          have e2 : n.toList.isEmpty = false := by rw [hne]; simpa using h0
          have fin := Lib.hid (hno.out.trans hd)
          clear hd h0 hne he
          go_wp2_with (first
            | (refine wpList_load_st rfl _ rfl b (o + j * 24) rfl a l[j] hcc ?_)
            | (refine wpList_store_st rfl _ _ rfl wr.heap.size rfl a l[j] rfl _ (heap_alloc_new wr _) rfl ?_; intro w2 hB2 hk2; have KA : Hid (Kept Nix w w2) := (KW.out.alloc _).step hk2 (fun y hy => .inr (by subst hy; exact KW.out.size)); obtain ⟨c0, c1, _, _, _, _, _, _, _, _, _, _, _, _, _, _, _, c17, _⟩ := hB2.cells; clear hB2 hk2))
          go_ret
          exact ⟨by rw [fin.out]; try rfl, KA.out⟩
      · rw [if_neg (fun h => he h.1)] at hd
        have e1 : (l[j].label.toList == n.toList) = false := by rw [bytes_beq]; simpa using he
        have step := Lib.hid (hno.out.trans hd)
        clear hd hne he
        go_wp2_with (first
            | (refine wpList_load_st rfl _ rfl b (o + j * 24) rfl a l[j] hcc ?_)
            | (refine wpList_store_st rfl _ _ rfl wr.heap.size rfl a l[j] rfl _ (heap_alloc_new wr _) rfl ?_; intro w2 hB2 hk2; have KA : Hid (Kept Nix w w2) := (KW.out.alloc _).step hk2 (fun y hy => .inr (by subst hy; exact KW.out.size)); obtain ⟨c0, c1, _, _, _, _, _, _, _, _, _, _, _, _, _, _, _, c17, _⟩ := hB2.cells; clear hB2 hk2))
        go_roundw
        case rel => exact ⟨j + 1, by omega, by go_num, step, KA.out⟩
        case measure => simp [intOf]; omega
    · obtain rfl : j = l.length := by omega
      have fin : Hid (labelF l n = -1) := by unfold Hid; rw [hno.out, List.drop_length, labelGo]
      go_wp2_with fail
      go_ret
      exact ⟨by rw [fin.out]; try rfl, KW.out⟩

set_option maxRecDepth 100000 in
set_option maxHeartbeats 2000000 in
theorem func_any (l : List StT) (al : Option Addr) (cl : Nat) (n : ByteArray) (S : Nat → Prop) (w : World) (hl : StsAt w S al l) (hS : Safe S Nix w.heap.size) (hlen : l.length ≤ 1048576) :
    Calls Try.prog 23 #[.slice al l.length cl, .string n] w (IntQ (funcF l n) w) := by
  have HL := Lib.hid hl; have HS := Lib.hid hS
  clear hl hS
  go_enter Try.func23, Try.ntmps23
  go_wp2_with fail
  go_loopw [9] (fun i wr => ∃ j : Nat, j ≤ l.length ∧ i = .int .i64 j ∧ Hid (funcF l n = funcGo n j (l.drop j)) ∧ Kept Nix w wr) (fun i _ => l.length - (intOf i).toNat)
  case atStart => exact ⟨0, Nat.zero_le _, rfl, by unfold Hid funcF; rw [List.drop_zero], Kept.refl _ _⟩
  case round =>
    obtain ⟨j, hj, rfl, hno, hkw⟩ := hrel
    have KW := Lib.hid hkw
    by_cases hlt : j < l.length
    · obtain ⟨b, o, rfl, hc⟩ := (HL.out.to hkw HS.out (fun _ h => h)) (by omega)
      obtain ⟨a, _, _, hcc, _⟩ := hc j hlt
      have hd := funcGo_drop n l j hlt
      clear hc hkw
      by_cases hk : l[j].kind = 7
      · have e1 : (l[j].kind == 7) = true := by simpa using hk
        by_cases he : l[j].name = n
        · rw [if_pos ⟨hk, he⟩] at hd
          have e2 : (l[j].name.toList == n.toList) = true := by rw [bytes_beq]; simpa using he
          have fin := Lib.hid (hno.out.trans hd)
          clear hd hk he
          go_wp2_with (first
            | (refine wpList_load_st rfl _ rfl b (o + j * 24) rfl a l[j] hcc ?_)
            | (refine wpList_store_st rfl _ _ rfl wr.heap.size rfl a l[j] rfl _ (heap_alloc_new wr _) rfl ?_; intro w2 hB2 hk2; have KA : Hid (Kept Nix w w2) := (KW.out.alloc _).step hk2 (fun y hy => .inr (by subst hy; exact KW.out.size)); obtain ⟨c0, c1, _, _, _, _, _, _, _, _, _, _, _, _, _, _, _, c17, _⟩ := hB2.cells; clear hB2 hk2))
          go_ret
          exact ⟨by rw [fin.out]; try rfl, KA.out⟩
        · rw [if_neg (fun h => he h.2)] at hd
          have e2 : (l[j].name.toList == n.toList) = false := by rw [bytes_beq]; simpa using he
          have step := Lib.hid (hno.out.trans hd)
          clear hd hk he
          go_wp2_with (first
            | (refine wpList_load_st rfl _ rfl b (o + j * 24) rfl a l[j] hcc ?_)
            | (refine wpList_store_st rfl _ _ rfl wr.heap.size rfl a l[j] rfl _ (heap_alloc_new wr _) rfl ?_; intro w2 hB2 hk2; have KA : Hid (Kept Nix w w2) := (KW.out.alloc _).step hk2 (fun y hy => .inr (by subst hy; exact KW.out.size)); obtain ⟨c0, c1, _, _, _, _, _, _, _, _, _, _, _, _, _, _, _, c17, _⟩ := hB2.cells; clear hB2 hk2))
          go_roundw
          case rel => exact ⟨j + 1, by omega, by go_num, step, KA.out⟩
          case measure => simp [intOf]; omega
      · rw [if_neg (fun h => hk h.1)] at hd
        have e1 : (l[j].kind == 7) = false := by simpa using hk
        have step := Lib.hid (hno.out.trans hd)
        clear hd hk
        go_wp2_with (first
            | (refine wpList_load_st rfl _ rfl b (o + j * 24) rfl a l[j] hcc ?_)
            | (refine wpList_store_st rfl _ _ rfl wr.heap.size rfl a l[j] rfl _ (heap_alloc_new wr _) rfl ?_; intro w2 hB2 hk2; have KA : Hid (Kept Nix w w2) := (KW.out.alloc _).step hk2 (fun y hy => .inr (by subst hy; exact KW.out.size)); obtain ⟨c0, c1, _, _, _, _, _, _, _, _, _, _, _, _, _, _, _, c17, _⟩ := hB2.cells; clear hB2 hk2))
        go_roundw
        case rel => exact ⟨j + 1, by omega, by go_num, step, KA.out⟩
        case measure => simp [intOf]; omega
    · obtain rfl : j = l.length := by omega
      have fin : Hid (funcF l n = -1) := by unfold Hid; rw [hno.out, List.drop_length, funcGo]
      go_wp2_with fail
      go_ret
      exact ⟨by rw [fin.out]; try rfl, KW.out⟩
end Go.Proofs.Ytkhhinmhgjicgaa
