/- The document's Print: from the jumps on. -/
import Derived.Test.YtcfcdobgpldoiaaGreatDoorPr4c
namespace Go.Proofs.YtcfcdobgpldoiaaGreatDoor
set_option linter.all false
open Go.RowKit

set_option maxRecDepth 100000 in
noncomputable def pc_jumpCode : Code := sTail (sTail (sTail (sTail (sTail (sTail pcBody)))))
set_option maxRecDepth 100000 in
set_option maxHeartbeats 16000000 in
theorem pc_jump {N : Nat} {a : StA} {s : StT} {w w4 : World} {u0 u2 u3 u4 u5 u6 u7 u9 u10 u11 u12 u13 u14 u15 u16 u17 u18 u19 u20 u21 u22 u23 u24 u25 u26 u27 u28 u29 u30 u31 u32 u33 u34 u35 u36 u37 u38 u39 u40 u41 u42 u43 u44 u45 u46 u47 u48 u49 u50 u51 u52 u53 u54 u55 u56 u57 u58 u59 u60 u61 u62 u63 u64 u65 u66 u67 u68 u69 u70 u71 u72 u73 u74 u75 u76 u77 u78 u79 u80 u81 u82 u83 u84 u85 u86 u87 u88 u89 u90 u91 u92 u93 u94 u95 u96 u97 u98 u99 u100 u101 u102 u103 u104 u105 u106 u107 u108 u109 u110 u111 u112 u113 u114 u115 u116 u117 u118 u119 u120 u121 u122 u123 u124 u125 u126 u127 u128 u129 u130 u131 u132 u133 u134 u135 u136 u137 u138 u139 u140 u141 u142 u143 u144 u145 u146 u147 u148 u149 u150 u151 u152 u153 u154 u155 u156 u157 u158 u159 u160 u161 u162 u163 u164 u165 u166 u167 u168 u169 u170 u171 u172 u173 u174 u175 u176 u177 u178 u179 u180 u181 u182 : Value} (hI : PcI N a s w w4) :
    Code.wp Tryz.prog pc_jumpCode (bodyPost Tryz.prog Tryz.f9 (PrintSQ s w)) ⟨(u0 :: (.pointer (some ⟨N, 0, none⟩)) :: u2 :: u3 :: u4 :: u5 :: u6 :: u7 :: (.string ⟨(s.label.data.toList ++ bodyS s (patS s)).toArray⟩) :: u9 :: u10 :: u11 :: u12 :: u13 :: u14 :: u15 :: u16 :: u17 :: u18 :: u19 :: u20 :: u21 :: u22 :: u23 :: u24 :: u25 :: u26 :: u27 :: u28 :: u29 :: u30 :: u31 :: u32 :: u33 :: u34 :: u35 :: u36 :: u37 :: u38 :: u39 :: u40 :: u41 :: u42 :: u43 :: u44 :: u45 :: u46 :: u47 :: u48 :: u49 :: u50 :: u51 :: u52 :: u53 :: u54 :: u55 :: u56 :: u57 :: u58 :: u59 :: u60 :: u61 :: u62 :: u63 :: u64 :: u65 :: u66 :: u67 :: u68 :: u69 :: u70 :: u71 :: u72 :: u73 :: u74 :: u75 :: u76 :: u77 :: u78 :: u79 :: u80 :: u81 :: u82 :: u83 :: u84 :: u85 :: u86 :: u87 :: u88 :: u89 :: u90 :: u91 :: u92 :: u93 :: u94 :: u95 :: u96 :: u97 :: u98 :: u99 :: u100 :: u101 :: u102 :: u103 :: u104 :: u105 :: u106 :: u107 :: u108 :: u109 :: u110 :: u111 :: u112 :: u113 :: u114 :: u115 :: u116 :: u117 :: u118 :: u119 :: u120 :: u121 :: u122 :: u123 :: u124 :: u125 :: u126 :: u127 :: u128 :: u129 :: u130 :: u131 :: u132 :: u133 :: u134 :: u135 :: u136 :: u137 :: u138 :: u139 :: u140 :: u141 :: u142 :: u143 :: u144 :: u145 :: u146 :: u147 :: u148 :: u149 :: u150 :: u151 :: u152 :: u153 :: u154 :: u155 :: u156 :: u157 :: u158 :: u159 :: u160 :: u161 :: u162 :: u163 :: u164 :: u165 :: u166 :: u167 :: u168 :: u169 :: u170 :: u171 :: u172 :: u173 :: u174 :: u175 :: u176 :: u177 :: u178 :: u179 :: u180 :: u181 :: u182 :: []).toArray, []⟩ w4 := by
  conv => arg 2; whnf
  have HI := Lib.hid hI; have HR := Lib.hid hI.right; have HVO := Lib.hid hI.vo; have HTO := Lib.hid hI.to_
  have I4 := Lib.hid hI.inv
  clear hI
  obtain ⟨c0, c1, c2, c3, c4, c5, c6, c7, c8, c9, c10, c11, c12, c13, c14, c15, c16, c17, c18, c19, c20, c21, c22, c23⟩ := I4.out.box.cells
  have hal := HR.out.always; have hye := HR.out.yes; have hno := HR.out.noes
  have hfit := HR.out.fit
  have hbl : (s.label.data.toList ++ bodyS s (patS s)).length ≤ 2000000000 := body_le HR.out HVO.out HTO.out
  generalize hLB : s.label.data.toList ++ bodyS s (patS s) = LB at *
  have HLB := Lib.hid hLB; have HFIT := Lib.hid hfit
  clear hLB hfit
  go_upto_region 24 with fail
  go_cut [126] (fun c wx => c = .bool (decide (s.always.size ≠ 0)) ∧ w4 = wx)
  case first =>
    by_cases hj1 : s.always.size = 0
    · have fin : Hid (decide (s.always.size ≠ 0) = false) := by simp [Hid, hj1]
      have y0 : s.always.toList.isEmpty = true := by rw [empty_size]; simp [hj1]
      clear hj1
      go_wp2_with fail
      go_meet
      exact ⟨by rw [fin.out], rfl⟩
    · have fin : Hid (decide (s.always.size ≠ 0) = true) := by simp [Hid, hj1]
      have y0 : s.always.toList.isEmpty = false := by rw [empty_size]; simp [hj1]
      clear hj1
      go_wp2_with fail
      go_meet
      exact ⟨by rw [fin.out], rfl⟩
  case rest =>
  obtain ⟨rfl, rfl⟩ := hcut
  go_upto_if 126 with fail
  go_cut [8] (fun v wx => v = .string ⟨(LB ++ alwS s).toArray⟩ ∧ w4 = wx)
  case first =>
    by_cases hj1 : s.always.size = 0
    · have fin : Hid ((⟨LB.toArray⟩ : ByteArray) = ⟨(LB ++ alwS s).toArray⟩) := bytes_eq (by simp [alwS, hj1])
      have dd : decide (s.always.size ≠ 0) = false := by simp [hj1]
      rw [dd]
      clear dd
      clear hj1
      go_wp2_with fail
      go_meet
      exact ⟨congrArg Value.string fin.out, rfl⟩
    · have fin : Hid ((⟨LB.toArray⟩ : ByteArray) ++ (⟨#[32, 58, 40]⟩ : ByteArray) ++ s.always ++ (⟨#[41]⟩ : ByteArray) = ⟨(LB ++ alwS s).toArray⟩) := bytes_eq (by simp [alwS, hj1, ByteArray.data_append])
      have dd : decide (s.always.size ≠ 0) = true := by simp [hj1]
      rw [dd]
      clear dd
      clear hj1
      go_wp2_with fail
      go_meet
      exact ⟨congrArg Value.string fin.out, rfl⟩
  case rest =>
  obtain ⟨rfl, rfl⟩ := hcut
  have hla : (LB ++ alwS s).length ≤ 2000000100 := by have := alw_le HR.out; rw [List.length_append]; omega
  generalize hLA : LB ++ alwS s = LA at *
  have HLA := Lib.hid hLA
  clear hLA
  go_upto_region 26 with fail
  go_cut [140] (fun c wx => c = .bool (decide (s.yes.size ≠ 0 ∧ s.noes.size ≠ 0)) ∧ w4 = wx)
  case first =>
    by_cases hj2 : s.yes.size = 0
    · by_cases hj3 : s.noes.size = 0
      · have fin : Hid (decide (s.yes.size ≠ 0 ∧ s.noes.size ≠ 0) = false) := by simp [Hid, hj2, hj3]
        have y0 : s.yes.toList.isEmpty = true := by rw [empty_size]; simp [hj2]
        have y1 : s.noes.toList.isEmpty = true := by rw [empty_size]; simp [hj3]
        clear hj2 hj3
        go_wp2_with fail
        go_meet
        exact ⟨by rw [fin.out], rfl⟩
      · have fin : Hid (decide (s.yes.size ≠ 0 ∧ s.noes.size ≠ 0) = false) := by simp [Hid, hj2, hj3]
        have y0 : s.yes.toList.isEmpty = true := by rw [empty_size]; simp [hj2]
        have y1 : s.noes.toList.isEmpty = false := by rw [empty_size]; simp [hj3]
        clear hj2 hj3
        go_wp2_with fail
        go_meet
        exact ⟨by rw [fin.out], rfl⟩
    · by_cases hj3 : s.noes.size = 0
      · have fin : Hid (decide (s.yes.size ≠ 0 ∧ s.noes.size ≠ 0) = false) := by simp [Hid, hj2, hj3]
        have y0 : s.yes.toList.isEmpty = false := by rw [empty_size]; simp [hj2]
        have y1 : s.noes.toList.isEmpty = true := by rw [empty_size]; simp [hj3]
        clear hj2 hj3
        go_wp2_with fail
        go_meet
        exact ⟨by rw [fin.out], rfl⟩
      · have fin : Hid (decide (s.yes.size ≠ 0 ∧ s.noes.size ≠ 0) = true) := by simp [Hid, hj2, hj3]
        have y0 : s.yes.toList.isEmpty = false := by rw [empty_size]; simp [hj2]
        have y1 : s.noes.toList.isEmpty = false := by rw [empty_size]; simp [hj3]
        clear hj2 hj3
        go_wp2_with fail
        go_meet
        exact ⟨by rw [fin.out], rfl⟩
  case rest =>
  obtain ⟨rfl, rfl⟩ := hcut
  go_upto_if 140 with fail
  go_cut [8] (fun v wx => v = .string ⟨(lineS s).toArray⟩ ∧ w4 = wx)
  case first =>
    by_cases hj2 : s.yes.size = 0
    · by_cases hj3 : s.noes.size = 0
      · have fin : Hid ((⟨LA.toArray⟩ : ByteArray) = ⟨(lineS s).toArray⟩) := bytes_eq (by rw [← HLA.out, ← HLB.out]; simp [lineS, jumpS, alwS, hj2, hj3, ByteArray.data_append])
        have dd : decide (s.yes.size ≠ 0 ∧ s.noes.size ≠ 0) = false := by simp [hj2, hj3]
        have y0 : s.yes.toList.isEmpty = true := by rw [empty_size]; simp [hj2]
        have y1 : s.noes.toList.isEmpty = true := by rw [empty_size]; simp [hj3]
        rw [dd]
        clear dd hj2 hj3
        go_wp2_with fail
        go_meet
        exact ⟨congrArg Value.string fin.out, rfl⟩
      · have hj1 : s.always.size = 0 := HFIT.out.resolve_right (by omega)
        have fin : Hid ((⟨LA.toArray⟩ : ByteArray) ++ (⟨#[32, 58, 70, 40]⟩ : ByteArray) ++ s.noes ++ (⟨#[41]⟩ : ByteArray) = ⟨(lineS s).toArray⟩) := bytes_eq (by rw [← HLA.out, ← HLB.out]; simp [lineS, jumpS, alwS, hj1, hj2, hj3, ByteArray.data_append])
        have dd : decide (s.yes.size ≠ 0 ∧ s.noes.size ≠ 0) = false := by simp [hj2, hj3]
        have y0 : s.yes.toList.isEmpty = true := by rw [empty_size]; simp [hj2]
        have y1 : s.noes.toList.isEmpty = false := by rw [empty_size]; simp [hj3]
        rw [dd]
        clear dd hj2 hj3 hj1
        go_wp2_with fail
        go_meet
        exact ⟨congrArg Value.string fin.out, rfl⟩
    · by_cases hj3 : s.noes.size = 0
      · have hj1 : s.always.size = 0 := HFIT.out.resolve_right (by omega)
        have fin : Hid ((⟨LA.toArray⟩ : ByteArray) ++ (⟨#[32, 58, 83, 40]⟩ : ByteArray) ++ s.yes ++ (⟨#[41]⟩ : ByteArray) = ⟨(lineS s).toArray⟩) := bytes_eq (by rw [← HLA.out, ← HLB.out]; simp [lineS, jumpS, alwS, hj1, hj2, hj3, ByteArray.data_append])
        have dd : decide (s.yes.size ≠ 0 ∧ s.noes.size ≠ 0) = false := by simp [hj2, hj3]
        have y0 : s.yes.toList.isEmpty = false := by rw [empty_size]; simp [hj2]
        have y1 : s.noes.toList.isEmpty = true := by rw [empty_size]; simp [hj3]
        rw [dd]
        clear dd hj2 hj3 hj1
        go_wp2_with fail
        go_meet
        exact ⟨congrArg Value.string fin.out, rfl⟩
      · have hj1 : s.always.size = 0 := HFIT.out.resolve_right (by omega)
        have fin : Hid ((⟨LA.toArray⟩ : ByteArray) ++ (⟨#[32, 58, 83, 40]⟩ : ByteArray) ++ s.yes ++ (⟨#[41, 70, 40]⟩ : ByteArray) ++ s.noes ++ (⟨#[41]⟩ : ByteArray) = ⟨(lineS s).toArray⟩) := bytes_eq (by rw [← HLA.out, ← HLB.out]; simp [lineS, jumpS, alwS, hj1, hj2, hj3, ByteArray.data_append])
        have dd : decide (s.yes.size ≠ 0 ∧ s.noes.size ≠ 0) = true := by simp [hj2, hj3]
        have y0 : s.yes.toList.isEmpty = false := by rw [empty_size]; simp [hj2]
        have y1 : s.noes.toList.isEmpty = false := by rw [empty_size]; simp [hj3]
        rw [dd]
        clear dd hj2 hj3 hj1
        go_wp2_with fail
        go_meet
        exact ⟨congrArg Value.string fin.out, rfl⟩
  case rest =>
  obtain ⟨rfl, rfl⟩ := hcut
  apply_assumption
  exact pc_loop HI.out
end Go.Proofs.YtcfcdobgpldoiaaGreatDoor
