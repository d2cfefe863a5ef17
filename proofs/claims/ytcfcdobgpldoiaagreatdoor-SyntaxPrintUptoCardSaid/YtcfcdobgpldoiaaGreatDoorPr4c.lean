/- The document's Print: from the loop on. -/
import Derived.Test.YtcfcdobgpldoiaaGreatDoorSm10
import Derived.Deep.RegionWith
namespace Go.Proofs.YtcfcdobgpldoiaaGreatDoor
set_option linter.all false
open Go.RowKit

def alwS (s : StT) : List UInt8 := if s.always.size ≠ 0 then [32, 58, 40] ++ (s.always.data.toList ++ [41]) else []
theorem alw_le {s : StT} (hr : RightS s) : (alwS s).length ≤ 20 := by
  have e : s.always.data.toList.length = s.always.size := rfl
  have := hr.always
  unfold alwS
  split
  · simp only [List.length_append, List.length_cons, List.length_nil]; omega
  · simp
theorem line_le {s : StT} (hr : RightS s) (hv : s.kind = 2 ∨ s.kind = 3 ∨ s.kind = 4 ∨ s.kind = 5 → OkX s.value ∧ sizeT s.value ≤ 4096) (ht : s.kind = 3 ∨ s.kind = 5 → OkX s.target ∧ sizeT s.target ≤ 4096) :
    (lineS s).length ≤ 2000000300 := by
  have h := body_le hr hv ht
  have e1 : s.always.data.toList.length = s.always.size := rfl
  have e2 : s.yes.data.toList.length = s.yes.size := rfl
  have e3 : s.noes.data.toList.length = s.noes.size := rfl
  have := hr.always; have := hr.yes; have := hr.noes
  have hj : (jumpS s).length ≤ 100 := by
    unfold jumpS
    split
    · simp only [List.length_append, List.length_cons, List.length_nil]; omega
    split
    · simp only [List.length_append, List.length_cons, List.length_nil]
      have : (if s.yes.size ≠ 0 then [83, 40] ++ (s.yes.data.toList ++ [41]) else ([] : List UInt8)).length ≤ 20 := by split <;> simp only [List.length_append, List.length_cons, List.length_nil] <;> omega
      have : (if s.noes.size ≠ 0 then [70, 40] ++ (s.noes.data.toList ++ [41]) else ([] : List UInt8)).length ≤ 20 := by split <;> simp only [List.length_append, List.length_cons, List.length_nil] <;> omega
      omega
    · simp
  unfold lineS
  rw [← List.append_assoc, List.length_append]
  omega
/-- How the second parts of a sequence follow. -/
def sTail : Code → Code
  | .seq _ b => b
  | c => c
structure PcI (N : Nat) (a : StA) (s : StT) (w wx : World) : Prop where
  inv : PrI N a s w wx
  sz : StSz s
  right : RightS s
  vo : s.kind = 2 ∨ s.kind = 3 ∨ s.kind = 4 ∨ s.kind = 5 → OkX s.value ∧ sizeT s.value ≤ 4096
  to_ : s.kind = 3 ∨ s.kind = 5 → OkX s.target ∧ sizeT s.target ≤ 4096
  w0 : wrongS s = 0
  nb : ¬ (hasPat s ∧ (printF s.pat).2 ≠ 0)
theorem PcI.next {N : Nat} {a : StA} {s : StT} {w wx wy : World} (h : PcI N a s w wx) (k : PrI N a s w wy) : PcI N a s w wy := ⟨k, h.sz, h.right, h.vo, h.to_, h.w0, h.nb⟩
noncomputable def pcBody : Code := (Tryz.f9.body).getD .skip
set_option maxRecDepth 100000 in
noncomputable def pc_loopCode : Code := sTail (sTail (sTail (sTail (sTail (sTail (sTail (sTail pcBody)))))))
set_option maxRecDepth 100000 in
set_option maxHeartbeats 16000000 in
theorem pc_loop {N : Nat} {a : StA} {s : StT} {w w4 : World} {u0 u1 u2 u3 u4 u5 u6 u7 u9 u10 u11 u12 u13 u14 u15 u16 u17 u18 u19 u20 u21 u22 u23 u24 u25 u26 u27 u28 u29 u30 u31 u32 u33 u34 u35 u36 u37 u38 u39 u40 u41 u42 u43 u44 u45 u46 u47 u48 u49 u50 u51 u52 u53 u54 u55 u56 u57 u58 u59 u60 u61 u62 u63 u64 u65 u66 u67 u68 u69 u70 u71 u72 u73 u74 u75 u76 u77 u78 u79 u80 u81 u82 u83 u84 u85 u86 u87 u88 u89 u90 u91 u92 u93 u94 u95 u96 u97 u98 u99 u100 u101 u102 u103 u104 u105 u106 u107 u108 u109 u110 u111 u112 u113 u114 u115 u116 u117 u118 u119 u120 u121 u122 u123 u124 u125 u126 u127 u128 u129 u130 u131 u132 u133 u134 u135 u136 u137 u138 u139 u140 u141 u142 u143 u144 u145 u146 u147 u148 u149 u150 u151 u152 u153 u154 u155 u156 u157 u158 u159 u160 u161 u162 u163 u164 u165 u166 u167 u168 u169 u170 u171 u172 u173 u174 u175 u176 u177 u178 u179 u180 u181 u182 : Value} (hI : PcI N a s w w4) :
    Code.wp Tryz.prog pc_loopCode (bodyPost Tryz.prog Tryz.f9 (PrintSQ s w)) ⟨(u0 :: u1 :: u2 :: u3 :: u4 :: u5 :: u6 :: u7 :: (.string ⟨(lineS s).toArray⟩) :: u9 :: u10 :: u11 :: u12 :: u13 :: u14 :: u15 :: u16 :: u17 :: u18 :: u19 :: u20 :: u21 :: u22 :: u23 :: u24 :: u25 :: u26 :: u27 :: u28 :: u29 :: u30 :: u31 :: u32 :: u33 :: u34 :: u35 :: u36 :: u37 :: u38 :: u39 :: u40 :: u41 :: u42 :: u43 :: u44 :: u45 :: u46 :: u47 :: u48 :: u49 :: u50 :: u51 :: u52 :: u53 :: u54 :: u55 :: u56 :: u57 :: u58 :: u59 :: u60 :: u61 :: u62 :: u63 :: u64 :: u65 :: u66 :: u67 :: u68 :: u69 :: u70 :: u71 :: u72 :: u73 :: u74 :: u75 :: u76 :: u77 :: u78 :: u79 :: u80 :: u81 :: u82 :: u83 :: u84 :: u85 :: u86 :: u87 :: u88 :: u89 :: u90 :: u91 :: u92 :: u93 :: u94 :: u95 :: u96 :: u97 :: u98 :: u99 :: u100 :: u101 :: u102 :: u103 :: u104 :: u105 :: u106 :: u107 :: u108 :: u109 :: u110 :: u111 :: u112 :: u113 :: u114 :: u115 :: u116 :: u117 :: u118 :: u119 :: u120 :: u121 :: u122 :: u123 :: u124 :: u125 :: u126 :: u127 :: u128 :: u129 :: u130 :: u131 :: u132 :: u133 :: u134 :: u135 :: u136 :: u137 :: u138 :: u139 :: u140 :: u141 :: u142 :: u143 :: u144 :: u145 :: u146 :: u147 :: u148 :: u149 :: u150 :: u151 :: u152 :: u153 :: u154 :: u155 :: u156 :: u157 :: u158 :: u159 :: u160 :: u161 :: u162 :: u163 :: u164 :: u165 :: u166 :: u167 :: u168 :: u169 :: u170 :: u171 :: u172 :: u173 :: u174 :: u175 :: u176 :: u177 :: u178 :: u179 :: u180 :: u181 :: u182 :: []).toArray, []⟩ w4 := by
  conv => arg 2; whnf
  have K4 := Lib.hid hI.inv.keep
  have hll := Lib.hid (line_le hI.right hI.vo hI.to_)
  have HNB := Lib.hid hI.nb; have HW0 := Lib.hid hI.w0
  clear hI
  obtain ⟨t, ht⟩ : ∃ t : ByteArray, t = ⟨(lineS s).toArray⟩ := ⟨_, rfl⟩
  rw [← ht]
  have HTL : Hid (t.data.toList = lineS s) := by unfold Hid; rw [ht]
  have hts : t.size ≤ 2000000300 := by rw [ht]; exact hll.out
  clear ht
  have hcv := run_bytes_of_string (P := Tryz.prog) w4 9 58 5 t Tryz.underlying9 Tryz.underlying58 Tryz.underlying5
  obtain ⟨w5, hw5⟩ : ∃ w5, w5 = (w4.drew.alloc (.cells (bytesRow t (grownCap w4 t.size 0 5)) 5 ((bytesRow t (grownCap w4 t.size 0 5)).size, (bytesRow t (grownCap w4 t.size 0 5)).size + 1))) := ⟨_, rfl⟩
  rw [← hw5] at hcv
  generalize grownCap w4 t.size 0 5 = gc at hcv hw5
  have hK : Kept Nix w4 w5 := by rw [hw5]; exact ((Kept.refl Nix w4).drew).alloc _
  have hcell : ∀ j (h : j < t.size), w5.cell? ⟨w4.heap.size, j, none⟩ = some (.int .u8 t[j].toNat) := by
    intro j h; rw [hw5]; show ((w4.drew.alloc _).cell? ⟨w4.drew.heap.size, j, none⟩) = _
    rw [World.cell?_alloc_mark, bytesRow_at t gc j h]; rfl
  have K5 := Lib.hid (K4.out.trans hK); have HC := Lib.hid hcell
  clear hw5 hK hcell
  go_upto_region 33 with fail
  go_loopw [172] (fun i wr => ∃ j : Nat, j ≤ t.size ∧ i = .int .i64 j ∧ Hid (∀ x ∈ t.data.toList.take j, x ≠ 10) ∧ wr = w5) (fun i _ => t.size - (intOf i).toNat)
  case atStart => exact ⟨0, Nat.zero_le _, rfl, (by intro x hx; cases hx), rfl⟩
  case round =>
    obtain ⟨j, hj, rfl, hno, hw_⟩ := hrel
    obtain rfl := hw_.symm
    by_cases hlt : j < t.size
    · have hc := HC.out j hlt
      have hmem : Hid (t[j] ∈ t.data.toList) := by unfold Hid; exact Array.getElem_mem_toList hlt
      have htk : Hid (∀ x ∈ t.data.toList.take (j + 1), x = t[j] ∨ x ∈ t.data.toList.take j) := by
        unfold Hid; intro x hx; rw [List.take_succ_eq_append_getElem (by simpa using hlt), List.mem_append] at hx
        rcases hx with h | h
        · exact .inr h
        · exact .inl (List.mem_singleton.1 h)
      generalize t[j] = ch at *
      by_cases h10 : ch = 10
      · have z : ((ch.toNat : Int) == 10) = true := by rw [h10]; rfl
        have fin : Hid (printS s = ([], 2)) := by unfold Hid printS; rw [if_neg (by simp [HW0.out]), if_neg HNB.out, if_pos (by rw [← HTL.out, ← h10]; exact hmem.out)]
        clear h10
        go_wp2_with fail
        go_ret2
        exact ⟨by rw [fin.out]; rfl, K5.out⟩
      · have z : ((ch.toNat : Int) == 10) = false := by
          have : ch.toNat ≠ 10 := fun h => h10 (UInt8.toNat_inj.1 h)
          simp; omega
        have stp : Hid (∀ x ∈ t.data.toList.take (j + 1), x ≠ 10) := by
          unfold Hid; intro x hx; rcases htk.out x hx with rfl | h
          · exact h10
          · exact hno.out x h
        clear h10
        go_wp2_with fail
        go_roundw
        case rel => exact ⟨j + 1, by omega, by go_num, stp, by trivial⟩
        case measure => simp [intOf]; omega
    · obtain rfl : j = t.size := by omega
      have hm : ¬ (10 : UInt8) ∈ lineS s := by rw [← HTL.out]; intro h; exact hno.out 10 (by rw [List.take_of_length_le (show t.data.toList.length ≤ t.size from Nat.le_refl _)]; exact h) rfl
      have hlen : t.size = (lineS s).length := by rw [← HTL.out]; rfl
      by_cases hl : 2000 < t.size
      · have fin : Hid (printS s = ([], 4)) := by unfold Hid printS; rw [if_neg (by simp [HW0.out]), if_neg HNB.out, if_neg hm, if_pos (by omega)]
        have d1 : decide ((2000 : Int) < (t.size : Int)) = true := decide_eq_true (by omega)
        have d2 : decide (2000 < t.size) = true := decide_eq_true hl
        clear hm hl hlen
        go_wp2_with fail
        go_ret2
        exact ⟨by rw [fin.out]; rfl, K5.out⟩
      · have fin : Hid (printS s = (lineS s, 0)) := by unfold Hid printS; rw [if_neg (by simp [HW0.out]), if_neg HNB.out, if_neg hm, if_neg (by omega)]
        have d1 : decide ((2000 : Int) < (t.size : Int)) = false := decide_eq_false (by omega)
        have d2 : decide (2000 < t.size) = false := decide_eq_false hl
        have ft : Hid (t = ⟨(lineS s).toArray⟩) := bytes_eq (by rw [HTL.out])
        clear hm hl hlen
        go_wp2_with fail
        go_ret2
        exact ⟨by rw [fin.out, ft.out]; rfl, K5.out⟩
end Go.Proofs.YtcfcdobgpldoiaaGreatDoor
