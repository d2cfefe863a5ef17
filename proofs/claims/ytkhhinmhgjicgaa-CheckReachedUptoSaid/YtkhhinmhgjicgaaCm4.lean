/- The document's Check of a program. The document's Check: its walk (printed by gen/rc.py). -/
import Derived.Test.YtkhhinmhgjicgaaUs
namespace Go.Proofs.Ytkhhinmhgjicgaa
set_option linter.all false
open Go.RowKit

/-- A fault's two cells at block N. -/
def Fl (N : Nat) (a b : Int) (w : World) : Prop := w.heap[N]? = some (.cells #[.int .i64 a, .int .i64 b] 25 (0, 0))
theorem Fl.lt {N : Nat} {a b : Int} {w : World} (h : Fl N a b w) : N < w.heap.size := (Array.getElem?_eq_some_iff.1 h).1
theorem Fl.kept {N : Nat} {a b : Int} {w w' : World} {X : Nat → Prop} (h : Fl N a b w) (hk : Kept X w w') (hx : ¬ X N) : Fl N a b w' := by
  unfold Fl; rw [hk.block N h.lt hx]; exact h
theorem Fl.cells {N : Nat} {a b : Int} {w : World} (h : Fl N a b w) : w.cell? ⟨N, 0, none⟩ = some (.int .i64 a) ∧ w.cell? ⟨N, 1, none⟩ = some (.int .i64 b) ∧ w.frozen? ⟨N, 0, none⟩ = false ∧ w.frozen? ⟨N, 1, none⟩ = false := by
  unfold Fl at h
  exact ⟨by rw [cell_of_row w N _ _ _ _ h]; rfl, by rw [cell_of_row w N _ _ _ _ h]; rfl, by simp [World.frozen?, h], by simp [World.frozen?, h]⟩
theorem Fl.set {N : Nat} {a b : Int} {w : World} (h : Fl N a b w) (c d : Int) : Fl N c d ((w.setCell ⟨N, 0, none⟩ (.int .i64 c)).setCell ⟨N, 1, none⟩ (.int .i64 d)) := by
  unfold Fl at *
  simp [World.setCell, Array.getElem?_modify, h]
def wrGo : Nat → List StT → Option (Int × Nat)
  | _, [] => none
  | i, s :: r => if wrongS s = 0 then wrGo (i + 1) r else some (wrongS s, i)
open Classical in
noncomputable def nmGo (l : List StT) : Nat → List StT → Option (Int × Nat)
  | _, [] => none
  | i, s :: r => if namedP l i s then nmGo l (i + 1) r else some (7, i)
def usGo (l : List StT) : Nat → List StT → Option (Int × Nat)
  | _, [] => none
  | i, s :: r => if usesF l s = 0 then usGo l (i + 1) r else some (usesF l s, i)
/-- The first thing that is wrong with a program. -/
noncomputable def checkF (l : List StT) : Int × Nat :=
  if 1000 < l.length then (5, 0) else ((wrGo 0 l).orElse fun _ => (nmGo l 0 l).orElse fun _ => usGo l 0 l).getD (0, 0)
def FaultQ (r : Int × Nat) (w : World) (e : Ending) (w' : World) : Prop := e = .returned (.agg #[.int .i64 r.1, .int .i64 (r.2 : Int)]) ∧ Kept Nix w w'
theorem ret_fault {f : Func} {tmps : Array Value} {r : Int × Nat} {w w2 : World} {N : Nat} {a b : Int} (hres : f.results = #[.cell 2 25]) (ht : tmps.getD 2 undef = .pointer (some ⟨N, 0, none⟩)) (hF : Fl N a b w2)
    (hr : (a, b) = (r.1, (r.2 : Int))) (K : Kept Nix w w2) : bodyPost Try.prog f (FaultQ r w) .ret ⟨tmps, []⟩ w2 := by
  obtain ⟨h0, h1, _, _⟩ := hF.cells
  simp only [Prod.mk.injEq] at hr
  obtain ⟨rfl, rfl⟩ := hr
  have ht' : tmps[2]?.getD undef = .pointer (some ⟨N, 0, none⟩) := by rw [← ht, Array.getD_eq_getD_getElem?]
  exact bodyPost_ret (v := .agg #[.int .i64 r.1, .int .i64 (r.2 : Int)]) (by simp [results, hres, go_sem, ht', h0, h1]) rfl ⟨rfl, K⟩
end Go.Proofs.Ytkhhinmhgjicgaa

namespace Go.Proofs.Ytkhhinmhgjicgaa
set_option linter.all false
open Go.RowKit

theorem wrGo_drop (l : List StT) (j : Nat) (h : j < l.length) : wrGo j (l.drop j) = if wrongS l[j] = 0 then wrGo (j + 1) (l.drop (j + 1)) else some (wrongS l[j], j) := by
  rw [List.drop_eq_getElem_cons h, wrGo]
theorem nmGo_yes (l : List StT) (j : Nat) (h : j < l.length) (hn : namedP l j l[j]) : nmGo l j (l.drop j) = nmGo l (j + 1) (l.drop (j + 1)) := by
  rw [List.drop_eq_getElem_cons h, nmGo, if_pos hn]
theorem nmGo_no (l : List StT) (j : Nat) (h : j < l.length) (hn : ¬ namedP l j l[j]) : nmGo l j (l.drop j) = some (7, j) := by
  rw [List.drop_eq_getElem_cons h, nmGo, if_neg hn]
theorem usGo_drop (l : List StT) (j : Nat) (h : j < l.length) : usGo l j (l.drop j) = if usesF l l[j] = 0 then usGo l (j + 1) (l.drop (j + 1)) else some (usesF l l[j], j) := by
  rw [List.drop_eq_getElem_cons h, usGo]
theorem check_wr {l : List StT} (hl : ¬ 1000 < l.length) {r : Int × Nat} (h : wrGo 0 l = some r) : checkF l = r := by unfold checkF; rw [if_neg hl, h]; rfl
theorem check_nm {l : List StT} (hl : ¬ 1000 < l.length) (h0 : wrGo 0 l = none) {r : Int × Nat} (h : nmGo l 0 l = some r) : checkF l = r := by unfold checkF; rw [if_neg hl, h0, h]; rfl
theorem check_us {l : List StT} (hl : ¬ 1000 < l.length) (h0 : wrGo 0 l = none) (h1 : nmGo l 0 l = none) {r : Int × Nat} (h : usGo l 0 l = some r) : checkF l = r := by unfold checkF; rw [if_neg hl, h0, h1, h]; rfl
theorem check_ok {l : List StT} (hl : ¬ 1000 < l.length) (h0 : wrGo 0 l = none) (h1 : nmGo l 0 l = none) (h : usGo l 0 l = none) : checkF l = (0, 0) := by unfold checkF; rw [if_neg hl, h0, h1, h]; rfl

set_option maxRecDepth 100000 in
set_option maxHeartbeats 8000000 in
theorem refCheck_any (l : List StT) (al : Option Addr) (cl : Nat) (S : Nat → Prop) (w : World) (hl : StsAt w S al l) (hS : Safe S Nix w.heap.size) (hlen : l.length ≤ 1048576) :
    Calls Try.prog 6 #[.slice al l.length cl] w (FaultQ (checkF l) w) := by
  obtain ⟨w1, hw1⟩ : ∃ w1, w1 = w.alloc (.cells #[.int .i64 0, .int .i64 0] 25) := ⟨_, rfl⟩
  have k1 : Kept Nix w w1 := by rw [hw1]; exact (Kept.refl Nix w).alloc _
  have F1 : Hid (Fl w.heap.size 0 0 w1) := by rw [hw1]; exact heap_alloc_new w _
  have L1 := Lib.hid (hl.to k1 hS (fun _ h => h)); have S1 := Lib.hid (hS.mono k1.size); have K1 := Lib.hid k1; have HW1 := Lib.hid hw1
  clear hl hS k1 hw1
  obtain ⟨f0, f1, f2, f3⟩ := F1.out.cells
  by_cases hbig : 1000 < l.length
  · have e1 : decide ((1000 : Int) < (l.length : Int)) = true := decide_eq_true (by omega)
    have fin : Hid (checkF l = (5, 0)) := if_pos hbig
    clear hbig
    go_enter Try.func6, Try.ntmps6
    go_upto_region 1 with fail
    rw [← HW1.out]
    go_wp2_with fail
    exact ret_fault rfl rfl (F1.out.set 5 0) (by rw [fin.out]; rfl) (K1.out.step (((Kept.refl (· = w.heap.size) w1).setCell (p := ⟨w.heap.size, 0, none⟩) (.inl rfl) _).setCell (p := ⟨w.heap.size, 1, none⟩) (.inl rfl) _) (fun y hy => .inr (by subst hy; exact Nat.le_refl _)))
  have e1 : decide ((1000 : Int) < (l.length : Int)) = false := decide_eq_false (by omega)
  have HBIG := Lib.hid hbig
  clear hbig
  go_enter Try.func6, Try.ntmps6
  go_upto_region 1 with fail
  rw [← HW1.out]
  clear f0 f1 f2 f3 HW1
  go_wp2_with fail
  go_loopw [16] (fun i wr => ∃ j : Nat, j ≤ l.length ∧ i = .int .i64 j ∧ Hid (wrGo 0 l = wrGo j (l.drop j)) ∧ Kept Nix w1 wr) (fun i _ => l.length - (intOf i).toNat)
  case atStart => exact ⟨0, Nat.zero_le _, rfl, by unfold Hid; rw [List.drop_zero], Kept.refl _ _⟩
  case round =>
    obtain ⟨j, hj, rfl, hno, hkw⟩ := hrel
    have KW := Lib.hid hkw
    by_cases hlt : j < l.length
    · have HLJ := L1.out.to hkw S1.out (fun _ h => h)
      obtain ⟨b, o, rfl, hc⟩ := HLJ (by omega)
      obtain ⟨a, _, hz, hcc, ho⟩ := hc j hlt
      have HZ := Lib.hid hz; have HO := Lib.hid ho
      have SW := Lib.hid (S1.out.mono hkw.size)
      have hd := wrGo_drop l j hlt
      have HD := Lib.hid hd
      clear hc hkw hz ho HLJ hd
      go_wp2_with (first
        | (refine wpList_load_st rfl _ rfl b (o + j * 24) rfl a l[j] hcc ?_)
        | (refine wpList_load_st rfl _ rfl wr.heap.size 0 rfl a l[j] HHC.out ?_)
        | (refine wpList_store_st rfl _ _ rfl wr.heap.size rfl a l[j] rfl _ (heap_alloc_new wr _) rfl ?_; intro w2 hB2 hk2; have K2 : Hid (Kept Nix w1 w2) := (KW.out.alloc _).step hk2 (fun y hy => .inr (by subst hy; exact KW.out.size)); have HHC := Lib.hid hB2.hc; have KQ2 : Hid (Kept Nix wr w2) := ((Kept.refl Nix wr).alloc _).step hk2 (fun y hy => .inr (by subst hy; exact Nat.le_refl _)); clear hB2 hk2))
      refine (refWrong_st l[j] (stVal a l[j]) S w2 ⟨a, rfl, HZ.out, HO.out.to KQ2.out SW.out (fun _ h => h)⟩ (SW.out.mono KQ2.out.size)).mono ?_
      rintro e w3 ⟨rfl, k3_⟩
      have K3 := Lib.hid (K2.out.trans k3_)
      have hd := HD.out
      clear k3_ hcc HHC
      by_cases hw0 : wrongS l[j] = 0
      · rw [if_pos hw0] at hd
        have step := Lib.hid (hno.out.trans hd)
        have z1 : (wrongS l[j] != 0) = false := by simpa using hw0
        clear hd hw0
        go_wp2_with fail
        go_roundw
        case rel => exact ⟨j + 1, by omega, by go_num, step, K3.out⟩
        case measure => simp [intOf]; omega
      · rw [if_neg hw0] at hd
        have fin := Lib.hid (check_wr HBIG.out (hno.out.trans hd))
        have z1 : (wrongS l[j] != 0) = true := by simpa using hw0
        have F3 := F1.out.kept K3.out (fun h => h)
        obtain ⟨f0, f1, f2, f3⟩ := F3.cells
        clear hd hw0
        go_wp2_with fail
        exact ret_fault rfl rfl (F3.set (wrongS l[j]) j) (by rw [fin.out]) ((K1.out.trans K3.out).step (((Kept.refl (· = w.heap.size) _).setCell (p := ⟨w.heap.size, 0, none⟩) (.inl rfl) _).setCell (p := ⟨w.heap.size, 1, none⟩) (.inl rfl) _) (fun y hy => .inr (by subst hy; exact Nat.le_refl _)))
    · obtain rfl : j = l.length := by omega
      have hwr : Hid (wrGo 0 l = none) := by unfold Hid; rw [hno.out, List.drop_length, wrGo]
      clear hno
      go_wp2_with fail
      go_loopw [31] (fun i wr => ∃ j : Nat, j ≤ l.length ∧ i = .int .i64 j ∧ Hid (nmGo l 0 l = nmGo l j (l.drop j)) ∧ Kept Nix w1 wr) (fun i _ => l.length - (intOf i).toNat)
      case atStart => exact ⟨0, Nat.zero_le _, rfl, by unfold Hid; rw [List.drop_zero], KW.out⟩
      case round =>
        obtain ⟨j, hj, rfl, hno, hkw⟩ := hrel
        have KV := Lib.hid hkw
        by_cases hlt : j < l.length
        · have HLJ := Lib.hid (L1.out.to hkw S1.out (fun _ h => h)); have SW := Lib.hid (S1.out.mono hkw.size)
          clear hkw
          go_wp2_with fail
          refine (refNamed_st l al cl j hlt S wr HLJ.out SW.out hlen).mono ?_
          rintro e w3 ⟨bb, rfl, hbb, k3_⟩
          have K3 := Lib.hid (KV.out.trans k3_)
          clear k3_ HLJ SW
          cases bb with
          | true =>
            have step := Lib.hid (hno.out.trans (nmGo_yes l j hlt (hbb.1 rfl)))
            clear hbb
            go_wp2_with fail
            go_roundw
            case rel => exact ⟨j + 1, by omega, by go_num, step, K3.out⟩
            case measure => simp [intOf]; omega
          | false =>
            have fin := Lib.hid (check_nm HBIG.out hwr.out (hno.out.trans (nmGo_no l j hlt (fun h => by have := hbb.2 h; cases this))))
            have F3 := F1.out.kept K3.out (fun h => h)
            obtain ⟨f0, f1, f2, f3⟩ := F3.cells
            clear hbb
            go_wp2_with fail
            exact ret_fault rfl rfl (F3.set 7 j) (by rw [fin.out]) ((K1.out.trans K3.out).step (((Kept.refl (· = w.heap.size) _).setCell (p := ⟨w.heap.size, 0, none⟩) (.inl rfl) _).setCell (p := ⟨w.heap.size, 1, none⟩) (.inl rfl) _) (fun y hy => .inr (by subst hy; exact Nat.le_refl _)))
        · obtain rfl : j = l.length := by omega
          have hnm : Hid (nmGo l 0 l = none) := by unfold Hid; rw [hno.out, List.drop_length, nmGo]
          clear hno
          go_wp2_with fail
          go_loopw [43] (fun i wr => ∃ j : Nat, j ≤ l.length ∧ i = .int .i64 j ∧ Hid (usGo l 0 l = usGo l j (l.drop j)) ∧ Kept Nix w1 wr) (fun i _ => l.length - (intOf i).toNat)
          case atStart => exact ⟨0, Nat.zero_le _, rfl, by unfold Hid; rw [List.drop_zero], KV.out⟩
          case round =>
            obtain ⟨j, hj, rfl, hno, hkw⟩ := hrel
            have KW := Lib.hid hkw
            by_cases hlt : j < l.length
            · have HLJ := L1.out.to hkw S1.out (fun _ h => h)
              have HLQ := Lib.hid HLJ
              obtain ⟨b, o, rfl, hc⟩ := HLJ (by omega)
              obtain ⟨a, _, hz, hcc, ho⟩ := hc j hlt
              have HZ := Lib.hid hz; have HO := Lib.hid ho
              have SW := Lib.hid (S1.out.mono hkw.size)
              have hd := usGo_drop l j hlt
              have HD := Lib.hid hd
              clear hc hkw hz ho HLJ hd
              go_wp2_with (first
        | (refine wpList_load_st rfl _ rfl b (o + j * 24) rfl a l[j] hcc ?_)
        | (refine wpList_load_st rfl _ rfl wr.heap.size 0 rfl a l[j] HHC.out ?_)
        | (refine wpList_store_st rfl _ _ rfl wr.heap.size rfl a l[j] rfl _ (heap_alloc_new wr _) rfl ?_; intro w2 hB2 hk2; have K2 : Hid (Kept Nix w1 w2) := (KW.out.alloc _).step hk2 (fun y hy => .inr (by subst hy; exact KW.out.size)); have HHC := Lib.hid hB2.hc; have KQ2 : Hid (Kept Nix wr w2) := ((Kept.refl Nix wr).alloc _).step hk2 (fun y hy => .inr (by subst hy; exact Nat.le_refl _)); clear hB2 hk2))
              refine (uses_any l _ cl l[j] (stVal a l[j]) S w2 (HLQ.out.to KQ2.out SW.out (fun _ h => h)) ⟨a, rfl, HZ.out, HO.out.to KQ2.out SW.out (fun _ h => h)⟩ (SW.out.mono KQ2.out.size) hlen).mono ?_
              rintro e w3 ⟨rfl, k3_⟩
              have K3 := Lib.hid (K2.out.trans k3_)
              have hd := HD.out
              clear k3_ hcc HHC
              by_cases hw0 : usesF l l[j] = 0
              · rw [if_pos hw0] at hd
                have step := Lib.hid (hno.out.trans hd)
                have z1 : (usesF l l[j] != 0) = false := by simpa using hw0
                clear hd hw0
                go_wp2_with fail
                go_roundw
                case rel => exact ⟨j + 1, by omega, by go_num, step, K3.out⟩
                case measure => simp [intOf]; omega
              · rw [if_neg hw0] at hd
                have fin := Lib.hid (check_us HBIG.out hwr.out hnm.out (hno.out.trans hd))
                have z1 : (usesF l l[j] != 0) = true := by simpa using hw0
                have F3 := F1.out.kept K3.out (fun h => h)
                obtain ⟨f0, f1, f2, f3⟩ := F3.cells
                clear hd hw0
                go_wp2_with fail
                exact ret_fault rfl rfl (F3.set (usesF l l[j]) j) (by rw [fin.out]) ((K1.out.trans K3.out).step (((Kept.refl (· = w.heap.size) _).setCell (p := ⟨w.heap.size, 0, none⟩) (.inl rfl) _).setCell (p := ⟨w.heap.size, 1, none⟩) (.inl rfl) _) (fun y hy => .inr (by subst hy; exact Nat.le_refl _)))
            · obtain rfl : j = l.length := by omega
              have fin := Lib.hid (check_ok HBIG.out hwr.out hnm.out (show usGo l 0 l = none by rw [hno.out, List.drop_length, usGo]))
              have F3 := F1.out.kept KW.out (fun h => h)
              obtain ⟨f0, f1, f2, f3⟩ := F3.cells
              clear hkw
              go_wp2_with fail
              exact ret_fault rfl rfl (F3.set 0 0) (by rw [fin.out]; rfl) ((K1.out.trans KW.out).step (((Kept.refl (· = w.heap.size) _).setCell (p := ⟨w.heap.size, 0, none⟩) (.inl rfl) _).setCell (p := ⟨w.heap.size, 1, none⟩) (.inl rfl) _) (fun y hy => .inr (by subst hy; exact Nat.le_refl _)))
end Go.Proofs.Ytkhhinmhgjicgaa
