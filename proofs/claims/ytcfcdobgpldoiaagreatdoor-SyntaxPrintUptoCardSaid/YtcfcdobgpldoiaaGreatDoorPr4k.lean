/- The document's Print: from the switch on. -/
import Derived.Test.YtcfcdobgpldoiaaGreatDoorPr4b
namespace Go.Proofs.YtcfcdobgpldoiaaGreatDoor
set_option linter.all false
open Go.RowKit

set_option maxRecDepth 100000 in
noncomputable def pc_kindCode : Code := sTail (sTail (sTail (sTail pcBody)))
set_option maxRecDepth 100000 in
set_option maxHeartbeats 16000000 in
theorem pc_kind {N : Nat} {a : StA} {s : StT} {w w3 : World} {u0 u2 u3 u4 u6 u7 u8 u9 u10 u11 u12 u13 u14 u15 u16 u17 u18 u19 u20 u21 u22 u23 u24 u25 u26 u27 u28 u29 u30 u31 u32 u33 u34 u35 u36 u37 u38 u39 u40 u41 u42 u43 u44 u45 u46 u47 u48 u49 u50 u51 u52 u53 u54 u55 u56 u57 u58 u59 u60 u61 u62 u63 u64 u65 u66 u67 u68 u69 u70 u71 u72 u73 u74 u75 u76 u77 u78 u79 u80 u81 u82 u83 u84 u85 u86 u87 u88 u89 u90 u91 u92 u93 u94 u95 u96 u97 u98 u99 u100 u101 u102 u103 u104 u105 u106 u107 u108 u109 u110 u111 u112 u113 u114 u115 u116 u117 u118 u119 u120 u121 u122 u123 u124 u125 u126 u127 u128 u129 u130 u131 u132 u133 u134 u135 u136 u137 u138 u139 u140 u141 u142 u143 u144 u145 u146 u147 u148 u149 u150 u151 u152 u153 u154 u155 u156 u157 u158 u159 u160 u161 u162 u163 u164 u165 u166 u167 u168 u169 u170 u171 u172 u173 u174 u175 u176 u177 u178 u179 u180 u181 u182 : Value} (hI : PcI N a s w w3) :
    Code.wp Tryz.prog pc_kindCode (bodyPost Tryz.prog Tryz.f9 (PrintSQ s w)) ⟨(u0 :: (.pointer (some ⟨N, 0, none⟩)) :: u2 :: u3 :: u4 :: (.string ⟨(patS s).toArray⟩) :: u6 :: u7 :: u8 :: u9 :: u10 :: u11 :: u12 :: u13 :: u14 :: u15 :: u16 :: u17 :: u18 :: u19 :: u20 :: u21 :: u22 :: u23 :: u24 :: u25 :: u26 :: u27 :: u28 :: u29 :: u30 :: u31 :: u32 :: u33 :: u34 :: u35 :: u36 :: u37 :: u38 :: u39 :: u40 :: u41 :: u42 :: u43 :: u44 :: u45 :: u46 :: u47 :: u48 :: u49 :: u50 :: u51 :: u52 :: u53 :: u54 :: u55 :: u56 :: u57 :: u58 :: u59 :: u60 :: u61 :: u62 :: u63 :: u64 :: u65 :: u66 :: u67 :: u68 :: u69 :: u70 :: u71 :: u72 :: u73 :: u74 :: u75 :: u76 :: u77 :: u78 :: u79 :: u80 :: u81 :: u82 :: u83 :: u84 :: u85 :: u86 :: u87 :: u88 :: u89 :: u90 :: u91 :: u92 :: u93 :: u94 :: u95 :: u96 :: u97 :: u98 :: u99 :: u100 :: u101 :: u102 :: u103 :: u104 :: u105 :: u106 :: u107 :: u108 :: u109 :: u110 :: u111 :: u112 :: u113 :: u114 :: u115 :: u116 :: u117 :: u118 :: u119 :: u120 :: u121 :: u122 :: u123 :: u124 :: u125 :: u126 :: u127 :: u128 :: u129 :: u130 :: u131 :: u132 :: u133 :: u134 :: u135 :: u136 :: u137 :: u138 :: u139 :: u140 :: u141 :: u142 :: u143 :: u144 :: u145 :: u146 :: u147 :: u148 :: u149 :: u150 :: u151 :: u152 :: u153 :: u154 :: u155 :: u156 :: u157 :: u158 :: u159 :: u160 :: u161 :: u162 :: u163 :: u164 :: u165 :: u166 :: u167 :: u168 :: u169 :: u170 :: u171 :: u172 :: u173 :: u174 :: u175 :: u176 :: u177 :: u178 :: u179 :: u180 :: u181 :: u182 :: []).toArray, []⟩ w3 := by
  conv => arg 2; whnf
  have HI := Lib.hid hI; have HR := Lib.hid hI.right; have HVO := Lib.hid hI.vo; have HTO := Lib.hid hI.to_
  have I3 := Lib.hid hI.inv
  clear hI
  have hTT : Hid (s.kind = 3 ∨ s.kind = 5 → ∀ wy, PrI N a s w wy → Calls Tryz.prog 28 #[aggT a s, .int .i64 1] wy (StrQ (expF s.target 1) wy)) := fun h wy I => tx_all _ _ s.target _ 1 wy (Nat.le_refl _) (HTO.out h).1 (I.target HI.out.sz) I.safe (by omega) (Nat.le_trans (exp_le (HTO.out h) 1) (by decide))
  have hVV : Hid (s.kind = 2 ∨ s.kind = 3 ∨ s.kind = 4 ∨ s.kind = 5 → ∀ wy, PrI N a s w wy → Calls Tryz.prog 28 #[aggV a s, .int .i64 1] wy (StrQ (expF s.value 1) wy)) := fun h wy I => tx_all _ _ s.value _ 1 wy (Nat.le_refl _) (HVO.out h).1 (I.value HI.out.sz) I.safe (by omega) (Nat.le_trans (exp_le (HVO.out h) 1) (by decide))
  unfold aggT at hTT
  unfold aggV at hVV
  have hpl := pat_le s
  obtain ⟨c0, c1, c2, c3, c4, c5, c6, c7, c8, c9, c10, c11, c12, c13, c14, c15, c16, c17, c18, c19, c20, c21, c22, c23⟩ := I3.out.box.cells
  have hlb := HR.out.label
  go_upto_block 0 with fail
  go_cut [8] (fun v wx => v = .string ⟨(s.label.data.toList ++ bodyS s (patS s)).toArray⟩ ∧ PrI N a s w wx)
  case first =>
    by_cases hk : s.kind = 1
    · have fin : Hid (s.label = ⟨(s.label.data.toList ++ bodyS s (patS s)).toArray⟩) := bytes_eq (by simp [bodyS, hk, ByteArray.data_append])
      have z2 : (s.kind == 2) = false := by rw [hk]; rfl
      have z3 : (s.kind == 3) = false := by rw [hk]; rfl
      have z4 : (s.kind == 4) = false := by rw [hk]; rfl
      have z5 : (s.kind == 5) = false := by rw [hk]; rfl
      have z6 : (s.kind == 6) = false := by rw [hk]; rfl
      have z7 : (s.kind == 7) = false := by rw [hk]; rfl
      clear hk
      go_wp2_with fail
      go_meet
      exact ⟨congrArg Value.string fin.out, I3.out⟩
    by_cases hk : s.kind = 2
    · have fin : Hid (s.label ++ (⟨#[32]⟩ : ByteArray) ++ (⟨(expF s.value 1).toArray⟩ : ByteArray) = ⟨(s.label.data.toList ++ bodyS s (patS s)).toArray⟩) := bytes_eq (by simp [bodyS, hk, ByteArray.data_append])
      have hle := exp_le (HVO.out (by omega)) 1; have HV := Lib.hid (hVV.out (by omega))
      have z2 : (s.kind == 2) = true := by rw [hk]; rfl
      have z3 : (s.kind == 3) = false := by rw [hk]; rfl
      have z4 : (s.kind == 4) = false := by rw [hk]; rfl
      have z5 : (s.kind == 5) = false := by rw [hk]; rfl
      have z6 : (s.kind == 6) = false := by rw [hk]; rfl
      have z7 : (s.kind == 7) = false := by rw [hk]; rfl
      clear hk
      go_wp2_with (go_at_call 28; (refine (HV.out w3 I3.out).mono ?_); rintro e w5 ⟨rfl, k5_⟩; have I5 := Lib.hid (I3.out.next k5_); clear k5_)
      go_meet
      exact ⟨congrArg Value.string fin.out, I5.out⟩
    by_cases hk : s.kind = 3
    · have fin : Hid (s.label ++ (⟨#[32]⟩ : ByteArray) ++ (⟨(expF s.target 1).toArray⟩ : ByteArray) ++ (⟨#[32, 61, 32]⟩ : ByteArray) ++ (⟨(expF s.value 1).toArray⟩ : ByteArray) = ⟨(s.label.data.toList ++ bodyS s (patS s)).toArray⟩) := bytes_eq (by simp [bodyS, hk, ByteArray.data_append])
      have hle := exp_le (HVO.out (by omega)) 1; have HV := Lib.hid (hVV.out (by omega))
      have hlt := exp_le (HTO.out (by omega)) 1; have HT := Lib.hid (hTT.out (by omega))
      have z2 : (s.kind == 2) = false := by rw [hk]; rfl
      have z3 : (s.kind == 3) = true := by rw [hk]; rfl
      have z4 : (s.kind == 4) = false := by rw [hk]; rfl
      have z5 : (s.kind == 5) = false := by rw [hk]; rfl
      have z6 : (s.kind == 6) = false := by rw [hk]; rfl
      have z7 : (s.kind == 7) = false := by rw [hk]; rfl
      clear hk
      go_upto_region 15 with fail
      obtain ⟨Sp, hSp⟩ : ∃ Sp : Nat → Value → World → Prop, Sp = (fun i v wx => match i with
        | 0 => v = .string s.label
        | 1 => v = .string (s.label ++ (⟨#[32]⟩ : ByteArray))
        | 2 => v = .pointer (some ⟨N, 2, none⟩)
        | 3 => v = .agg #[.int .i64 s.target.kind, .string s.target.text, .int .i64 s.target.n, .string s.target.name, .slice a.ta s.target.kids.length a.tc]
        | 4 => v = .string ((⟨(expF s.target 1).toArray⟩ : ByteArray))
        | 5 => v = .string (s.label ++ (⟨#[32]⟩ : ByteArray) ++ (⟨(expF s.target 1).toArray⟩ : ByteArray))
        | 6 => v = .string (s.label ++ (⟨#[32]⟩ : ByteArray) ++ (⟨(expF s.target 1).toArray⟩ : ByteArray) ++ (⟨#[32, 61, 32]⟩ : ByteArray))
        | 7 => v = .pointer (some ⟨N, 7, none⟩)
        | 8 => v = .agg #[.int .i64 s.value.kind, .string s.value.text, .int .i64 s.value.n, .string s.value.name, .slice a.va s.value.kids.length a.vc]
        | 9 => v = .string ((⟨(expF s.value 1).toArray⟩ : ByteArray))
        | 10 => v = .string (s.label ++ (⟨#[32]⟩ : ByteArray) ++ (⟨(expF s.target 1).toArray⟩ : ByteArray) ++ (⟨#[32, 61, 32]⟩ : ByteArray) ++ (⟨(expF s.value 1).toArray⟩ : ByteArray))
        | _ => v = .string (s.label ++ (⟨#[32]⟩ : ByteArray) ++ (⟨(expF s.target 1).toArray⟩ : ByteArray) ++ (⟨#[32, 61, 32]⟩ : ByteArray) ++ (⟨(expF s.value 1).toArray⟩ : ByteArray))) := ⟨_, rfl⟩
      refine wp_specs2 Sp [55, 56, 57, 58, 59, 60, 61, 62, 63, 64, 65, 8] (by kernel_rfl) (by kernel_rfl) (by kernel_rfl) (fun i v w w' h hk => by
          subst hSp
          rcases i with _ | _ | _ | _ | _ | _ | _ | _ | _ | _ | _ | _ | i
          all_goals (first
            | exact h)) ?_ ?_
      · intro i o hi l x wy hI hlf haft
        have e1 : x.eval (.tmp 1) = .pointer (some ⟨N, 0, none⟩) := hI.keep 1 _ rfl (by kernel_rfl)
        have J := I3.out.next hI.kept
        clear c0 c1 c2 c3 c4 c5 c6 c7 c8 c9 c10 c11 c12 c13 c14 c15 c16 c17 c18 c19 c20 c21 c22 c23
        obtain ⟨c0, c1, c2, c3, c4, c5, c6, c7, c8, c9, c10, c11, c12, c13, c14, c15, c16, c17, c18, c19, c20, c21, c22, c23⟩ := J.box.cells
        rcases i with _ | _ | _ | _ | _ | _ | _ | _ | _ | _ | _ | _ | i
        all_goals (simp only [List.getElem?_toArray, List.getElem?_cons_zero, List.getElem?_cons_succ, List.getElem?_nil, Option.some.injEq, reduceCtorEq] at hi)
        all_goals subst hi
        · have e8 : x.eval (.tmp 8) = .string s.label := hI.late hlf 11 8 rfl rfl rfl _ rfl
          refine op_val (v := .string s.label) ?_ (by subst hSp; exact rfl)
          simp only [execOp, resolve, invoke, List.map_toArray, List.map_cons, List.map_nil, e8]; go_simp <;> omega
        · have d55 : x.eval (.tmp 55) = .string s.label := by have h_ := hI.dep haft 0 55 rfl rfl rfl; rw [hSp] at h_; exact h_
          refine op_val (v := .string (s.label ++ (⟨#[32]⟩ : ByteArray))) ?_ (by subst hSp; exact rfl)
          simp only [execOp, resolve, invoke, List.map_toArray, List.map_cons, List.map_nil, d55]; go_simp <;> omega
        · refine op_val (v := .pointer (some ⟨N, 2, none⟩)) ?_ (by subst hSp; exact rfl)
          simp only [execOp, resolve, invoke, List.map_toArray, List.map_cons, List.map_nil, e1]; go_simp <;> omega
        · have d57 : x.eval (.tmp 57) = .pointer (some ⟨N, 2, none⟩) := by have h_ := hI.dep haft 2 57 rfl rfl rfl; rw [hSp] at h_; exact h_
          refine op_val (v := .agg #[.int .i64 s.target.kind, .string s.target.text, .int .i64 s.target.n, .string s.target.name, .slice a.ta s.target.kids.length a.tc]) ?_ (by subst hSp; exact rfl)
          simp only [execOp, resolve, invoke, List.map_toArray, List.map_cons, List.map_nil, d57]; go_simp <;> omega
        · have d58 : x.eval (.tmp 58) = .agg #[.int .i64 s.target.kind, .string s.target.text, .int .i64 s.target.n, .string s.target.name, .slice a.ta s.target.kids.length a.tc] := by have h_ := hI.dep haft 3 58 rfl rfl rfl; rw [hSp] at h_; exact h_
          refine op_call (f := 28) (args := #[.agg #[.int .i64 s.target.kind, .string s.target.text, .int .i64 s.target.n, .string s.target.name, .slice a.ta s.target.kids.length a.tc], .int .i64 1]) ?_ ?_
          · simp only [execOp, resolve, invoke, List.map_toArray, List.map_cons, List.map_nil, d58]; go_simp <;> omega
          · exact (HT.out _ J).mono fun e w' h => ⟨_, h.1, by subst hSp; exact rfl, h.2⟩
        · have d56 : x.eval (.tmp 56) = .string (s.label ++ (⟨#[32]⟩ : ByteArray)) := by have h_ := hI.dep haft 1 56 rfl rfl rfl; rw [hSp] at h_; exact h_
          have d59 : x.eval (.tmp 59) = .string ((⟨(expF s.target 1).toArray⟩ : ByteArray)) := by have h_ := hI.dep haft 4 59 rfl rfl rfl; rw [hSp] at h_; exact h_
          refine op_val (v := .string (s.label ++ (⟨#[32]⟩ : ByteArray) ++ (⟨(expF s.target 1).toArray⟩ : ByteArray))) ?_ (by subst hSp; exact rfl)
          simp only [execOp, resolve, invoke, List.map_toArray, List.map_cons, List.map_nil, d56, d59]; go_simp <;> omega
        · have d60 : x.eval (.tmp 60) = .string (s.label ++ (⟨#[32]⟩ : ByteArray) ++ (⟨(expF s.target 1).toArray⟩ : ByteArray)) := by have h_ := hI.dep haft 5 60 rfl rfl rfl; rw [hSp] at h_; exact h_
          refine op_val (v := .string (s.label ++ (⟨#[32]⟩ : ByteArray) ++ (⟨(expF s.target 1).toArray⟩ : ByteArray) ++ (⟨#[32, 61, 32]⟩ : ByteArray))) ?_ (by subst hSp; exact rfl)
          simp only [execOp, resolve, invoke, List.map_toArray, List.map_cons, List.map_nil, d60]; go_simp <;> omega
        · refine op_val (v := .pointer (some ⟨N, 7, none⟩)) ?_ (by subst hSp; exact rfl)
          simp only [execOp, resolve, invoke, List.map_toArray, List.map_cons, List.map_nil, e1]; go_simp <;> omega
        · have d62 : x.eval (.tmp 62) = .pointer (some ⟨N, 7, none⟩) := by have h_ := hI.dep haft 7 62 rfl rfl rfl; rw [hSp] at h_; exact h_
          refine op_val (v := .agg #[.int .i64 s.value.kind, .string s.value.text, .int .i64 s.value.n, .string s.value.name, .slice a.va s.value.kids.length a.vc]) ?_ (by subst hSp; exact rfl)
          simp only [execOp, resolve, invoke, List.map_toArray, List.map_cons, List.map_nil, d62]; go_simp <;> omega
        · have d63 : x.eval (.tmp 63) = .agg #[.int .i64 s.value.kind, .string s.value.text, .int .i64 s.value.n, .string s.value.name, .slice a.va s.value.kids.length a.vc] := by have h_ := hI.dep haft 8 63 rfl rfl rfl; rw [hSp] at h_; exact h_
          refine op_call (f := 28) (args := #[.agg #[.int .i64 s.value.kind, .string s.value.text, .int .i64 s.value.n, .string s.value.name, .slice a.va s.value.kids.length a.vc], .int .i64 1]) ?_ ?_
          · simp only [execOp, resolve, invoke, List.map_toArray, List.map_cons, List.map_nil, d63]; go_simp <;> omega
          · exact (HV.out _ J).mono fun e w' h => ⟨_, h.1, by subst hSp; exact rfl, h.2⟩
        · have d61 : x.eval (.tmp 61) = .string (s.label ++ (⟨#[32]⟩ : ByteArray) ++ (⟨(expF s.target 1).toArray⟩ : ByteArray) ++ (⟨#[32, 61, 32]⟩ : ByteArray)) := by have h_ := hI.dep haft 6 61 rfl rfl rfl; rw [hSp] at h_; exact h_
          have d64 : x.eval (.tmp 64) = .string ((⟨(expF s.value 1).toArray⟩ : ByteArray)) := by have h_ := hI.dep haft 9 64 rfl rfl rfl; rw [hSp] at h_; exact h_
          refine op_val (v := .string (s.label ++ (⟨#[32]⟩ : ByteArray) ++ (⟨(expF s.target 1).toArray⟩ : ByteArray) ++ (⟨#[32, 61, 32]⟩ : ByteArray) ++ (⟨(expF s.value 1).toArray⟩ : ByteArray))) ?_ (by subst hSp; exact rfl)
          simp only [execOp, resolve, invoke, List.map_toArray, List.map_cons, List.map_nil, d61, d64]; go_simp <;> omega
        · have d65 : x.eval (.tmp 65) = .string (s.label ++ (⟨#[32]⟩ : ByteArray) ++ (⟨(expF s.target 1).toArray⟩ : ByteArray) ++ (⟨#[32, 61, 32]⟩ : ByteArray) ++ (⟨(expF s.value 1).toArray⟩ : ByteArray)) := by have h_ := hI.dep haft 10 65 rfl rfl rfl; rw [hSp] at h_; exact h_
          refine op_val (v := .string (s.label ++ (⟨#[32]⟩ : ByteArray) ++ (⟨(expF s.target 1).toArray⟩ : ByteArray) ++ (⟨#[32, 61, 32]⟩ : ByteArray) ++ (⟨(expF s.value 1).toArray⟩ : ByteArray))) ?_ (by subst hSp; exact rfl)
          simp only [execOp, resolve, invoke, List.map_toArray, List.map_cons, List.map_nil, d65]; go_simp <;> omega
      · intro f wy hK hS
        have h8_ := hS 11 _ 8 rfl rfl
        rw [hSp] at h8_
        have e8 : f 8 = .string (s.label ++ (⟨#[32]⟩ : ByteArray) ++ (⟨(expF s.target 1).toArray⟩ : ByteArray) ++ (⟨#[32, 61, 32]⟩ : ByteArray) ++ (⟨(expF s.value 1).toArray⟩ : ByteArray)) := h8_
        rw [fin.out] at e8
        have K4 := Lib.hid hK
        clear hK hS h8_
        simp only [setAll, List.foldl_cons, List.foldl_nil, List.setIfInBounds_toArray, List.set_cons_zero, List.set_cons_succ, e8]
        clear e8
        go_wp2_with fail
        go_meet
        exact ⟨rfl, I3.out.next K4.out⟩
    by_cases hk : s.kind = 4
    · have fin : Hid (s.label ++ (⟨#[32]⟩ : ByteArray) ++ (⟨(expF s.value 1).toArray⟩ : ByteArray) ++ (⟨#[32, 63, 32]⟩ : ByteArray) ++ (⟨(patS s).toArray⟩ : ByteArray) = ⟨(s.label.data.toList ++ bodyS s (patS s)).toArray⟩) := bytes_eq (by simp [bodyS, hk, ByteArray.data_append])
      have hle := exp_le (HVO.out (by omega)) 1; have HV := Lib.hid (hVV.out (by omega))
      have z2 : (s.kind == 2) = false := by rw [hk]; rfl
      have z3 : (s.kind == 3) = false := by rw [hk]; rfl
      have z4 : (s.kind == 4) = true := by rw [hk]; rfl
      have z5 : (s.kind == 5) = false := by rw [hk]; rfl
      have z6 : (s.kind == 6) = false := by rw [hk]; rfl
      have z7 : (s.kind == 7) = false := by rw [hk]; rfl
      clear hk
      go_wp2_with (go_at_call 28; (refine (HV.out w3 I3.out).mono ?_); rintro e w5 ⟨rfl, k5_⟩; have I5 := Lib.hid (I3.out.next k5_); clear k5_)
      go_meet
      exact ⟨congrArg Value.string fin.out, I5.out⟩
    by_cases hk : s.kind = 5
    · have fin : Hid (s.label ++ (⟨#[32]⟩ : ByteArray) ++ (⟨(expF s.target 1).toArray⟩ : ByteArray) ++ (⟨#[32, 63, 32]⟩ : ByteArray) ++ (⟨(patS s).toArray⟩ : ByteArray) ++ (⟨#[32, 61, 32]⟩ : ByteArray) ++ (⟨(expF s.value 1).toArray⟩ : ByteArray) = ⟨(s.label.data.toList ++ bodyS s (patS s)).toArray⟩) := bytes_eq (by simp [bodyS, hk, ByteArray.data_append])
      have hle := exp_le (HVO.out (by omega)) 1; have HV := Lib.hid (hVV.out (by omega))
      have hlt := exp_le (HTO.out (by omega)) 1; have HT := Lib.hid (hTT.out (by omega))
      have z2 : (s.kind == 2) = false := by rw [hk]; rfl
      have z3 : (s.kind == 3) = false := by rw [hk]; rfl
      have z4 : (s.kind == 4) = false := by rw [hk]; rfl
      have z5 : (s.kind == 5) = true := by rw [hk]; rfl
      have z6 : (s.kind == 6) = false := by rw [hk]; rfl
      have z7 : (s.kind == 7) = false := by rw [hk]; rfl
      clear hk
      go_upto_region 19 with fail
      obtain ⟨Sp, hSp⟩ : ∃ Sp : Nat → Value → World → Prop, Sp = (fun i v wx => match i with
        | 0 => v = .string s.label
        | 1 => v = .string (s.label ++ (⟨#[32]⟩ : ByteArray))
        | 2 => v = .pointer (some ⟨N, 2, none⟩)
        | 3 => v = .agg #[.int .i64 s.target.kind, .string s.target.text, .int .i64 s.target.n, .string s.target.name, .slice a.ta s.target.kids.length a.tc]
        | 4 => v = .string ((⟨(expF s.target 1).toArray⟩ : ByteArray))
        | 5 => v = .string (s.label ++ (⟨#[32]⟩ : ByteArray) ++ (⟨(expF s.target 1).toArray⟩ : ByteArray))
        | 6 => v = .string (s.label ++ (⟨#[32]⟩ : ByteArray) ++ (⟨(expF s.target 1).toArray⟩ : ByteArray) ++ (⟨#[32, 63, 32]⟩ : ByteArray))
        | 7 => v = .string (⟨(patS s).toArray⟩ : ByteArray)
        | 8 => v = .string (s.label ++ (⟨#[32]⟩ : ByteArray) ++ (⟨(expF s.target 1).toArray⟩ : ByteArray) ++ (⟨#[32, 63, 32]⟩ : ByteArray) ++ (⟨(patS s).toArray⟩ : ByteArray))
        | 9 => v = .string (s.label ++ (⟨#[32]⟩ : ByteArray) ++ (⟨(expF s.target 1).toArray⟩ : ByteArray) ++ (⟨#[32, 63, 32]⟩ : ByteArray) ++ (⟨(patS s).toArray⟩ : ByteArray) ++ (⟨#[32, 61, 32]⟩ : ByteArray))
        | 10 => v = .pointer (some ⟨N, 7, none⟩)
        | 11 => v = .agg #[.int .i64 s.value.kind, .string s.value.text, .int .i64 s.value.n, .string s.value.name, .slice a.va s.value.kids.length a.vc]
        | 12 => v = .string ((⟨(expF s.value 1).toArray⟩ : ByteArray))
        | 13 => v = .string (s.label ++ (⟨#[32]⟩ : ByteArray) ++ (⟨(expF s.target 1).toArray⟩ : ByteArray) ++ (⟨#[32, 63, 32]⟩ : ByteArray) ++ (⟨(patS s).toArray⟩ : ByteArray) ++ (⟨#[32, 61, 32]⟩ : ByteArray) ++ (⟨(expF s.value 1).toArray⟩ : ByteArray))
        | _ => v = .string (s.label ++ (⟨#[32]⟩ : ByteArray) ++ (⟨(expF s.target 1).toArray⟩ : ByteArray) ++ (⟨#[32, 63, 32]⟩ : ByteArray) ++ (⟨(patS s).toArray⟩ : ByteArray) ++ (⟨#[32, 61, 32]⟩ : ByteArray) ++ (⟨(expF s.value 1).toArray⟩ : ByteArray))) := ⟨_, rfl⟩
      refine wp_specs2 Sp [79, 80, 81, 82, 83, 84, 85, 86, 87, 88, 89, 90, 91, 92, 8] (by kernel_rfl) (by kernel_rfl) (by kernel_rfl) (fun i v w w' h hk => by
          subst hSp
          rcases i with _ | _ | _ | _ | _ | _ | _ | _ | _ | _ | _ | _ | _ | _ | _ | i
          all_goals (first
            | exact h)) ?_ ?_
      · intro i o hi l x wy hI hlf haft
        have e1 : x.eval (.tmp 1) = .pointer (some ⟨N, 0, none⟩) := hI.keep 1 _ rfl (by kernel_rfl)
        have e5 : x.eval (.tmp 5) = .string (⟨(patS s).toArray⟩ : ByteArray) := hI.keep 5 _ rfl (by kernel_rfl)
        have J := I3.out.next hI.kept
        clear c0 c1 c2 c3 c4 c5 c6 c7 c8 c9 c10 c11 c12 c13 c14 c15 c16 c17 c18 c19 c20 c21 c22 c23
        obtain ⟨c0, c1, c2, c3, c4, c5, c6, c7, c8, c9, c10, c11, c12, c13, c14, c15, c16, c17, c18, c19, c20, c21, c22, c23⟩ := J.box.cells
        rcases i with _ | _ | _ | _ | _ | _ | _ | _ | _ | _ | _ | _ | _ | _ | _ | i
        all_goals (simp only [List.getElem?_toArray, List.getElem?_cons_zero, List.getElem?_cons_succ, List.getElem?_nil, Option.some.injEq, reduceCtorEq] at hi)
        all_goals subst hi
        · have e8 : x.eval (.tmp 8) = .string s.label := hI.late hlf 14 8 rfl rfl rfl _ rfl
          refine op_val (v := .string s.label) ?_ (by subst hSp; exact rfl)
          simp only [execOp, resolve, invoke, List.map_toArray, List.map_cons, List.map_nil, e8]; go_simp <;> omega
        · have d79 : x.eval (.tmp 79) = .string s.label := by have h_ := hI.dep haft 0 79 rfl rfl rfl; rw [hSp] at h_; exact h_
          refine op_val (v := .string (s.label ++ (⟨#[32]⟩ : ByteArray))) ?_ (by subst hSp; exact rfl)
          simp only [execOp, resolve, invoke, List.map_toArray, List.map_cons, List.map_nil, d79]; go_simp <;> omega
        · refine op_val (v := .pointer (some ⟨N, 2, none⟩)) ?_ (by subst hSp; exact rfl)
          simp only [execOp, resolve, invoke, List.map_toArray, List.map_cons, List.map_nil, e1]; go_simp <;> omega
        · have d81 : x.eval (.tmp 81) = .pointer (some ⟨N, 2, none⟩) := by have h_ := hI.dep haft 2 81 rfl rfl rfl; rw [hSp] at h_; exact h_
          refine op_val (v := .agg #[.int .i64 s.target.kind, .string s.target.text, .int .i64 s.target.n, .string s.target.name, .slice a.ta s.target.kids.length a.tc]) ?_ (by subst hSp; exact rfl)
          simp only [execOp, resolve, invoke, List.map_toArray, List.map_cons, List.map_nil, d81]; go_simp <;> omega
        · have d82 : x.eval (.tmp 82) = .agg #[.int .i64 s.target.kind, .string s.target.text, .int .i64 s.target.n, .string s.target.name, .slice a.ta s.target.kids.length a.tc] := by have h_ := hI.dep haft 3 82 rfl rfl rfl; rw [hSp] at h_; exact h_
          refine op_call (f := 28) (args := #[.agg #[.int .i64 s.target.kind, .string s.target.text, .int .i64 s.target.n, .string s.target.name, .slice a.ta s.target.kids.length a.tc], .int .i64 1]) ?_ ?_
          · simp only [execOp, resolve, invoke, List.map_toArray, List.map_cons, List.map_nil, d82]; go_simp <;> omega
          · exact (HT.out _ J).mono fun e w' h => ⟨_, h.1, by subst hSp; exact rfl, h.2⟩
        · have d80 : x.eval (.tmp 80) = .string (s.label ++ (⟨#[32]⟩ : ByteArray)) := by have h_ := hI.dep haft 1 80 rfl rfl rfl; rw [hSp] at h_; exact h_
          have d83 : x.eval (.tmp 83) = .string ((⟨(expF s.target 1).toArray⟩ : ByteArray)) := by have h_ := hI.dep haft 4 83 rfl rfl rfl; rw [hSp] at h_; exact h_
          refine op_val (v := .string (s.label ++ (⟨#[32]⟩ : ByteArray) ++ (⟨(expF s.target 1).toArray⟩ : ByteArray))) ?_ (by subst hSp; exact rfl)
          simp only [execOp, resolve, invoke, List.map_toArray, List.map_cons, List.map_nil, d80, d83]; go_simp <;> omega
        · have d84 : x.eval (.tmp 84) = .string (s.label ++ (⟨#[32]⟩ : ByteArray) ++ (⟨(expF s.target 1).toArray⟩ : ByteArray)) := by have h_ := hI.dep haft 5 84 rfl rfl rfl; rw [hSp] at h_; exact h_
          refine op_val (v := .string (s.label ++ (⟨#[32]⟩ : ByteArray) ++ (⟨(expF s.target 1).toArray⟩ : ByteArray) ++ (⟨#[32, 63, 32]⟩ : ByteArray))) ?_ (by subst hSp; exact rfl)
          simp only [execOp, resolve, invoke, List.map_toArray, List.map_cons, List.map_nil, d84]; go_simp <;> omega
        · refine op_val (v := .string (⟨(patS s).toArray⟩ : ByteArray)) ?_ (by subst hSp; exact rfl)
          simp only [execOp, resolve, invoke, List.map_toArray, List.map_cons, List.map_nil, e5]; go_simp <;> omega
        · have d85 : x.eval (.tmp 85) = .string (s.label ++ (⟨#[32]⟩ : ByteArray) ++ (⟨(expF s.target 1).toArray⟩ : ByteArray) ++ (⟨#[32, 63, 32]⟩ : ByteArray)) := by have h_ := hI.dep haft 6 85 rfl rfl rfl; rw [hSp] at h_; exact h_
          have d86 : x.eval (.tmp 86) = .string (⟨(patS s).toArray⟩ : ByteArray) := by have h_ := hI.dep haft 7 86 rfl rfl rfl; rw [hSp] at h_; exact h_
          refine op_val (v := .string (s.label ++ (⟨#[32]⟩ : ByteArray) ++ (⟨(expF s.target 1).toArray⟩ : ByteArray) ++ (⟨#[32, 63, 32]⟩ : ByteArray) ++ (⟨(patS s).toArray⟩ : ByteArray))) ?_ (by subst hSp; exact rfl)
          simp only [execOp, resolve, invoke, List.map_toArray, List.map_cons, List.map_nil, d85, d86]; go_simp <;> omega
        · have d87 : x.eval (.tmp 87) = .string (s.label ++ (⟨#[32]⟩ : ByteArray) ++ (⟨(expF s.target 1).toArray⟩ : ByteArray) ++ (⟨#[32, 63, 32]⟩ : ByteArray) ++ (⟨(patS s).toArray⟩ : ByteArray)) := by have h_ := hI.dep haft 8 87 rfl rfl rfl; rw [hSp] at h_; exact h_
          refine op_val (v := .string (s.label ++ (⟨#[32]⟩ : ByteArray) ++ (⟨(expF s.target 1).toArray⟩ : ByteArray) ++ (⟨#[32, 63, 32]⟩ : ByteArray) ++ (⟨(patS s).toArray⟩ : ByteArray) ++ (⟨#[32, 61, 32]⟩ : ByteArray))) ?_ (by subst hSp; exact rfl)
          simp only [execOp, resolve, invoke, List.map_toArray, List.map_cons, List.map_nil, d87]; go_simp <;> omega
        · refine op_val (v := .pointer (some ⟨N, 7, none⟩)) ?_ (by subst hSp; exact rfl)
          simp only [execOp, resolve, invoke, List.map_toArray, List.map_cons, List.map_nil, e1]; go_simp <;> omega
        · have d89 : x.eval (.tmp 89) = .pointer (some ⟨N, 7, none⟩) := by have h_ := hI.dep haft 10 89 rfl rfl rfl; rw [hSp] at h_; exact h_
          refine op_val (v := .agg #[.int .i64 s.value.kind, .string s.value.text, .int .i64 s.value.n, .string s.value.name, .slice a.va s.value.kids.length a.vc]) ?_ (by subst hSp; exact rfl)
          simp only [execOp, resolve, invoke, List.map_toArray, List.map_cons, List.map_nil, d89]; go_simp <;> omega
        · have d90 : x.eval (.tmp 90) = .agg #[.int .i64 s.value.kind, .string s.value.text, .int .i64 s.value.n, .string s.value.name, .slice a.va s.value.kids.length a.vc] := by have h_ := hI.dep haft 11 90 rfl rfl rfl; rw [hSp] at h_; exact h_
          refine op_call (f := 28) (args := #[.agg #[.int .i64 s.value.kind, .string s.value.text, .int .i64 s.value.n, .string s.value.name, .slice a.va s.value.kids.length a.vc], .int .i64 1]) ?_ ?_
          · simp only [execOp, resolve, invoke, List.map_toArray, List.map_cons, List.map_nil, d90]; go_simp <;> omega
          · exact (HV.out _ J).mono fun e w' h => ⟨_, h.1, by subst hSp; exact rfl, h.2⟩
        · have d88 : x.eval (.tmp 88) = .string (s.label ++ (⟨#[32]⟩ : ByteArray) ++ (⟨(expF s.target 1).toArray⟩ : ByteArray) ++ (⟨#[32, 63, 32]⟩ : ByteArray) ++ (⟨(patS s).toArray⟩ : ByteArray) ++ (⟨#[32, 61, 32]⟩ : ByteArray)) := by have h_ := hI.dep haft 9 88 rfl rfl rfl; rw [hSp] at h_; exact h_
          have d91 : x.eval (.tmp 91) = .string ((⟨(expF s.value 1).toArray⟩ : ByteArray)) := by have h_ := hI.dep haft 12 91 rfl rfl rfl; rw [hSp] at h_; exact h_
          refine op_val (v := .string (s.label ++ (⟨#[32]⟩ : ByteArray) ++ (⟨(expF s.target 1).toArray⟩ : ByteArray) ++ (⟨#[32, 63, 32]⟩ : ByteArray) ++ (⟨(patS s).toArray⟩ : ByteArray) ++ (⟨#[32, 61, 32]⟩ : ByteArray) ++ (⟨(expF s.value 1).toArray⟩ : ByteArray))) ?_ (by subst hSp; exact rfl)
          simp only [execOp, resolve, invoke, List.map_toArray, List.map_cons, List.map_nil, d88, d91]; go_simp <;> omega
        · have d92 : x.eval (.tmp 92) = .string (s.label ++ (⟨#[32]⟩ : ByteArray) ++ (⟨(expF s.target 1).toArray⟩ : ByteArray) ++ (⟨#[32, 63, 32]⟩ : ByteArray) ++ (⟨(patS s).toArray⟩ : ByteArray) ++ (⟨#[32, 61, 32]⟩ : ByteArray) ++ (⟨(expF s.value 1).toArray⟩ : ByteArray)) := by have h_ := hI.dep haft 13 92 rfl rfl rfl; rw [hSp] at h_; exact h_
          refine op_val (v := .string (s.label ++ (⟨#[32]⟩ : ByteArray) ++ (⟨(expF s.target 1).toArray⟩ : ByteArray) ++ (⟨#[32, 63, 32]⟩ : ByteArray) ++ (⟨(patS s).toArray⟩ : ByteArray) ++ (⟨#[32, 61, 32]⟩ : ByteArray) ++ (⟨(expF s.value 1).toArray⟩ : ByteArray))) ?_ (by subst hSp; exact rfl)
          simp only [execOp, resolve, invoke, List.map_toArray, List.map_cons, List.map_nil, d92]; go_simp <;> omega
      · intro f wy hK hS
        have h8_ := hS 14 _ 8 rfl rfl
        rw [hSp] at h8_
        have e8 : f 8 = .string (s.label ++ (⟨#[32]⟩ : ByteArray) ++ (⟨(expF s.target 1).toArray⟩ : ByteArray) ++ (⟨#[32, 63, 32]⟩ : ByteArray) ++ (⟨(patS s).toArray⟩ : ByteArray) ++ (⟨#[32, 61, 32]⟩ : ByteArray) ++ (⟨(expF s.value 1).toArray⟩ : ByteArray)) := h8_
        rw [fin.out] at e8
        have K4 := Lib.hid hK
        clear hK hS h8_
        simp only [setAll, List.foldl_cons, List.foldl_nil, List.setIfInBounds_toArray, List.set_cons_zero, List.set_cons_succ, e8]
        clear e8
        go_wp2_with fail
        go_meet
        exact ⟨rfl, I3.out.next K4.out⟩
    by_cases hk : s.kind = 6
    · have fin : Hid (s.label ++ (⟨#[32]⟩ : ByteArray) ++ s.name ++ (⟨#[32, 58, 61, 32]⟩ : ByteArray) ++ (⟨(patS s).toArray⟩ : ByteArray) = ⟨(s.label.data.toList ++ bodyS s (patS s)).toArray⟩) := bytes_eq (by simp [bodyS, hk, ByteArray.data_append])
      have hnm := HR.out.name (by omega)
      have z2 : (s.kind == 2) = false := by rw [hk]; rfl
      have z3 : (s.kind == 3) = false := by rw [hk]; rfl
      have z4 : (s.kind == 4) = false := by rw [hk]; rfl
      have z5 : (s.kind == 5) = false := by rw [hk]; rfl
      have z6 : (s.kind == 6) = true := by rw [hk]; rfl
      have z7 : (s.kind == 7) = false := by rw [hk]; rfl
      clear hk
      go_wp2_with fail
      go_meet
      exact ⟨congrArg Value.string fin.out, I3.out⟩
    by_cases hk : s.kind = 7
    · have fin : Hid (s.label ++ (⟨#[32, 68, 69, 70, 73, 78, 69, 32]⟩ : ByteArray) ++ s.name ++ (⟨#[40]⟩ : ByteArray) ++ (⟨(commaL s.params).toArray⟩ : ByteArray) ++ (⟨#[41]⟩ : ByteArray) ++ (⟨(commaL s.locals).toArray⟩ : ByteArray) ++ (⟨#[32]⟩ : ByteArray) ++ s.entry = ⟨(s.label.data.toList ++ bodyS s (patS s)).toArray⟩) := bytes_eq (by simp [bodyS, hk, ByteArray.data_append])
      have hnm := HR.out.name (by omega)
      have hen := HR.out.entry hk; have hpa := HR.out.params hk; have hlo := HR.out.locals hk
      have hc1 := commaL_len hpa.1 hpa.2; have hc2 := commaL_len hlo.1 hlo.2
      have HJ : Hid (∀ wy, PrI N a s w wy → Calls Tryz.prog 29 #[.slice a.ma s.params.length a.mc] wy (StrQ (commaL s.params) wy)) := fun wy I => commas_any s.params a.ma a.mc _ wy I.ok.params hpa.1 hpa.2
      have HK : Hid (∀ wy, PrI N a s w wy → Calls Tryz.prog 29 #[.slice a.la s.locals.length a.lc] wy (StrQ (commaL s.locals) wy)) := fun wy I => commas_any s.locals a.la a.lc _ wy I.ok.locals hlo.1 hlo.2
      clear hpa hlo
      have z2 : (s.kind == 2) = false := by rw [hk]; rfl
      have z3 : (s.kind == 3) = false := by rw [hk]; rfl
      have z4 : (s.kind == 4) = false := by rw [hk]; rfl
      have z5 : (s.kind == 5) = false := by rw [hk]; rfl
      have z6 : (s.kind == 6) = false := by rw [hk]; rfl
      have z7 : (s.kind == 7) = true := by rw [hk]; rfl
      clear hk
      go_upto_region 23 with fail
      obtain ⟨Sp, hSp⟩ : ∃ Sp : Nat → Value → World → Prop, Sp = (fun i v wx => match i with
        | 0 => v = .string s.label
        | 1 => v = .string (s.label ++ (⟨#[32, 68, 69, 70, 73, 78, 69, 32]⟩ : ByteArray))
        | 2 => v = .pointer (some ⟨N, 17, none⟩)
        | 3 => v = .string s.name
        | 4 => v = .string (s.label ++ (⟨#[32, 68, 69, 70, 73, 78, 69, 32]⟩ : ByteArray) ++ s.name)
        | 5 => v = .string (s.label ++ (⟨#[32, 68, 69, 70, 73, 78, 69, 32]⟩ : ByteArray) ++ s.name ++ (⟨#[40]⟩ : ByteArray))
        | 6 => v = .pointer (some ⟨N, 19, none⟩)
        | 7 => v = .slice a.ma s.params.length a.mc
        | 8 => v = .string ((⟨(commaL s.params).toArray⟩ : ByteArray))
        | 9 => v = .string (s.label ++ (⟨#[32, 68, 69, 70, 73, 78, 69, 32]⟩ : ByteArray) ++ s.name ++ (⟨#[40]⟩ : ByteArray) ++ (⟨(commaL s.params).toArray⟩ : ByteArray))
        | 10 => v = .string (s.label ++ (⟨#[32, 68, 69, 70, 73, 78, 69, 32]⟩ : ByteArray) ++ s.name ++ (⟨#[40]⟩ : ByteArray) ++ (⟨(commaL s.params).toArray⟩ : ByteArray) ++ (⟨#[41]⟩ : ByteArray))
        | 11 => v = .pointer (some ⟨N, 20, none⟩)
        | 12 => v = .slice a.la s.locals.length a.lc
        | 13 => v = .string ((⟨(commaL s.locals).toArray⟩ : ByteArray))
        | 14 => v = .string (s.label ++ (⟨#[32, 68, 69, 70, 73, 78, 69, 32]⟩ : ByteArray) ++ s.name ++ (⟨#[40]⟩ : ByteArray) ++ (⟨(commaL s.params).toArray⟩ : ByteArray) ++ (⟨#[41]⟩ : ByteArray) ++ (⟨(commaL s.locals).toArray⟩ : ByteArray))
        | 15 => v = .string (s.label ++ (⟨#[32, 68, 69, 70, 73, 78, 69, 32]⟩ : ByteArray) ++ s.name ++ (⟨#[40]⟩ : ByteArray) ++ (⟨(commaL s.params).toArray⟩ : ByteArray) ++ (⟨#[41]⟩ : ByteArray) ++ (⟨(commaL s.locals).toArray⟩ : ByteArray) ++ (⟨#[32]⟩ : ByteArray))
        | 16 => v = .pointer (some ⟨N, 18, none⟩)
        | 17 => v = .string s.entry
        | 18 => v = .string (s.label ++ (⟨#[32, 68, 69, 70, 73, 78, 69, 32]⟩ : ByteArray) ++ s.name ++ (⟨#[40]⟩ : ByteArray) ++ (⟨(commaL s.params).toArray⟩ : ByteArray) ++ (⟨#[41]⟩ : ByteArray) ++ (⟨(commaL s.locals).toArray⟩ : ByteArray) ++ (⟨#[32]⟩ : ByteArray) ++ s.entry)
        | _ => v = .string (s.label ++ (⟨#[32, 68, 69, 70, 73, 78, 69, 32]⟩ : ByteArray) ++ s.name ++ (⟨#[40]⟩ : ByteArray) ++ (⟨(commaL s.params).toArray⟩ : ByteArray) ++ (⟨#[41]⟩ : ByteArray) ++ (⟨(commaL s.locals).toArray⟩ : ByteArray) ++ (⟨#[32]⟩ : ByteArray) ++ s.entry)) := ⟨_, rfl⟩
      refine wp_specs2 Sp [105, 106, 107, 108, 109, 110, 111, 112, 113, 114, 115, 116, 117, 118, 119, 120, 121, 122, 123, 8] (by kernel_rfl) (by kernel_rfl) (by kernel_rfl) (fun i v w w' h hk => by
          subst hSp
          rcases i with _ | _ | _ | _ | _ | _ | _ | _ | _ | _ | _ | _ | _ | _ | _ | _ | _ | _ | _ | _ | i
          all_goals (first
            | exact h)) ?_ ?_
      · intro i o hi l x wy hI hlf haft
        have e1 : x.eval (.tmp 1) = .pointer (some ⟨N, 0, none⟩) := hI.keep 1 _ rfl (by kernel_rfl)
        have J := I3.out.next hI.kept
        clear c0 c1 c2 c3 c4 c5 c6 c7 c8 c9 c10 c11 c12 c13 c14 c15 c16 c17 c18 c19 c20 c21 c22 c23
        obtain ⟨c0, c1, c2, c3, c4, c5, c6, c7, c8, c9, c10, c11, c12, c13, c14, c15, c16, c17, c18, c19, c20, c21, c22, c23⟩ := J.box.cells
        rcases i with _ | _ | _ | _ | _ | _ | _ | _ | _ | _ | _ | _ | _ | _ | _ | _ | _ | _ | _ | _ | i
        all_goals (simp only [List.getElem?_toArray, List.getElem?_cons_zero, List.getElem?_cons_succ, List.getElem?_nil, Option.some.injEq, reduceCtorEq] at hi)
        all_goals subst hi
        · have e8 : x.eval (.tmp 8) = .string s.label := hI.late hlf 19 8 rfl rfl rfl _ rfl
          refine op_val (v := .string s.label) ?_ (by subst hSp; exact rfl)
          simp only [execOp, resolve, invoke, List.map_toArray, List.map_cons, List.map_nil, e8]; go_simp <;> omega
        · have d105 : x.eval (.tmp 105) = .string s.label := by have h_ := hI.dep haft 0 105 rfl rfl rfl; rw [hSp] at h_; exact h_
          refine op_val (v := .string (s.label ++ (⟨#[32, 68, 69, 70, 73, 78, 69, 32]⟩ : ByteArray))) ?_ (by subst hSp; exact rfl)
          simp only [execOp, resolve, invoke, List.map_toArray, List.map_cons, List.map_nil, d105]; go_simp <;> omega
        · refine op_val (v := .pointer (some ⟨N, 17, none⟩)) ?_ (by subst hSp; exact rfl)
          simp only [execOp, resolve, invoke, List.map_toArray, List.map_cons, List.map_nil, e1]; go_simp <;> omega
        · have d107 : x.eval (.tmp 107) = .pointer (some ⟨N, 17, none⟩) := by have h_ := hI.dep haft 2 107 rfl rfl rfl; rw [hSp] at h_; exact h_
          refine op_val (v := .string s.name) ?_ (by subst hSp; exact rfl)
          simp only [execOp, resolve, invoke, List.map_toArray, List.map_cons, List.map_nil, d107]; go_simp <;> omega
        · have d106 : x.eval (.tmp 106) = .string (s.label ++ (⟨#[32, 68, 69, 70, 73, 78, 69, 32]⟩ : ByteArray)) := by have h_ := hI.dep haft 1 106 rfl rfl rfl; rw [hSp] at h_; exact h_
          have d108 : x.eval (.tmp 108) = .string s.name := by have h_ := hI.dep haft 3 108 rfl rfl rfl; rw [hSp] at h_; exact h_
          refine op_val (v := .string (s.label ++ (⟨#[32, 68, 69, 70, 73, 78, 69, 32]⟩ : ByteArray) ++ s.name)) ?_ (by subst hSp; exact rfl)
          simp only [execOp, resolve, invoke, List.map_toArray, List.map_cons, List.map_nil, d106, d108]; go_simp <;> omega
        · have d109 : x.eval (.tmp 109) = .string (s.label ++ (⟨#[32, 68, 69, 70, 73, 78, 69, 32]⟩ : ByteArray) ++ s.name) := by have h_ := hI.dep haft 4 109 rfl rfl rfl; rw [hSp] at h_; exact h_
          refine op_val (v := .string (s.label ++ (⟨#[32, 68, 69, 70, 73, 78, 69, 32]⟩ : ByteArray) ++ s.name ++ (⟨#[40]⟩ : ByteArray))) ?_ (by subst hSp; exact rfl)
          simp only [execOp, resolve, invoke, List.map_toArray, List.map_cons, List.map_nil, d109]; go_simp <;> omega
        · refine op_val (v := .pointer (some ⟨N, 19, none⟩)) ?_ (by subst hSp; exact rfl)
          simp only [execOp, resolve, invoke, List.map_toArray, List.map_cons, List.map_nil, e1]; go_simp <;> omega
        · have d111 : x.eval (.tmp 111) = .pointer (some ⟨N, 19, none⟩) := by have h_ := hI.dep haft 6 111 rfl rfl rfl; rw [hSp] at h_; exact h_
          refine op_val (v := .slice a.ma s.params.length a.mc) ?_ (by subst hSp; exact rfl)
          simp only [execOp, resolve, invoke, List.map_toArray, List.map_cons, List.map_nil, d111]; go_simp <;> omega
        · have d112 : x.eval (.tmp 112) = .slice a.ma s.params.length a.mc := by have h_ := hI.dep haft 7 112 rfl rfl rfl; rw [hSp] at h_; exact h_
          refine op_call (f := 29) (args := #[.slice a.ma s.params.length a.mc]) ?_ ?_
          · simp only [execOp, resolve, invoke, List.map_toArray, List.map_cons, List.map_nil, d112]; go_simp <;> omega
          · exact (HJ.out _ J).mono fun e w' h => ⟨_, h.1, by subst hSp; exact rfl, h.2⟩
        · have d110 : x.eval (.tmp 110) = .string (s.label ++ (⟨#[32, 68, 69, 70, 73, 78, 69, 32]⟩ : ByteArray) ++ s.name ++ (⟨#[40]⟩ : ByteArray)) := by have h_ := hI.dep haft 5 110 rfl rfl rfl; rw [hSp] at h_; exact h_
          have d113 : x.eval (.tmp 113) = .string ((⟨(commaL s.params).toArray⟩ : ByteArray)) := by have h_ := hI.dep haft 8 113 rfl rfl rfl; rw [hSp] at h_; exact h_
          refine op_val (v := .string (s.label ++ (⟨#[32, 68, 69, 70, 73, 78, 69, 32]⟩ : ByteArray) ++ s.name ++ (⟨#[40]⟩ : ByteArray) ++ (⟨(commaL s.params).toArray⟩ : ByteArray))) ?_ (by subst hSp; exact rfl)
          simp only [execOp, resolve, invoke, List.map_toArray, List.map_cons, List.map_nil, d110, d113]; go_simp <;> omega
        · have d114 : x.eval (.tmp 114) = .string (s.label ++ (⟨#[32, 68, 69, 70, 73, 78, 69, 32]⟩ : ByteArray) ++ s.name ++ (⟨#[40]⟩ : ByteArray) ++ (⟨(commaL s.params).toArray⟩ : ByteArray)) := by have h_ := hI.dep haft 9 114 rfl rfl rfl; rw [hSp] at h_; exact h_
          refine op_val (v := .string (s.label ++ (⟨#[32, 68, 69, 70, 73, 78, 69, 32]⟩ : ByteArray) ++ s.name ++ (⟨#[40]⟩ : ByteArray) ++ (⟨(commaL s.params).toArray⟩ : ByteArray) ++ (⟨#[41]⟩ : ByteArray))) ?_ (by subst hSp; exact rfl)
          simp only [execOp, resolve, invoke, List.map_toArray, List.map_cons, List.map_nil, d114]; go_simp <;> omega
        · refine op_val (v := .pointer (some ⟨N, 20, none⟩)) ?_ (by subst hSp; exact rfl)
          simp only [execOp, resolve, invoke, List.map_toArray, List.map_cons, List.map_nil, e1]; go_simp <;> omega
        · have d116 : x.eval (.tmp 116) = .pointer (some ⟨N, 20, none⟩) := by have h_ := hI.dep haft 11 116 rfl rfl rfl; rw [hSp] at h_; exact h_
          refine op_val (v := .slice a.la s.locals.length a.lc) ?_ (by subst hSp; exact rfl)
          simp only [execOp, resolve, invoke, List.map_toArray, List.map_cons, List.map_nil, d116]; go_simp <;> omega
        · have d117 : x.eval (.tmp 117) = .slice a.la s.locals.length a.lc := by have h_ := hI.dep haft 12 117 rfl rfl rfl; rw [hSp] at h_; exact h_
          refine op_call (f := 29) (args := #[.slice a.la s.locals.length a.lc]) ?_ ?_
          · simp only [execOp, resolve, invoke, List.map_toArray, List.map_cons, List.map_nil, d117]; go_simp <;> omega
          · exact (HK.out _ J).mono fun e w' h => ⟨_, h.1, by subst hSp; exact rfl, h.2⟩
        · have d115 : x.eval (.tmp 115) = .string (s.label ++ (⟨#[32, 68, 69, 70, 73, 78, 69, 32]⟩ : ByteArray) ++ s.name ++ (⟨#[40]⟩ : ByteArray) ++ (⟨(commaL s.params).toArray⟩ : ByteArray) ++ (⟨#[41]⟩ : ByteArray)) := by have h_ := hI.dep haft 10 115 rfl rfl rfl; rw [hSp] at h_; exact h_
          have d118 : x.eval (.tmp 118) = .string ((⟨(commaL s.locals).toArray⟩ : ByteArray)) := by have h_ := hI.dep haft 13 118 rfl rfl rfl; rw [hSp] at h_; exact h_
          refine op_val (v := .string (s.label ++ (⟨#[32, 68, 69, 70, 73, 78, 69, 32]⟩ : ByteArray) ++ s.name ++ (⟨#[40]⟩ : ByteArray) ++ (⟨(commaL s.params).toArray⟩ : ByteArray) ++ (⟨#[41]⟩ : ByteArray) ++ (⟨(commaL s.locals).toArray⟩ : ByteArray))) ?_ (by subst hSp; exact rfl)
          simp only [execOp, resolve, invoke, List.map_toArray, List.map_cons, List.map_nil, d115, d118]; go_simp <;> omega
        · have d119 : x.eval (.tmp 119) = .string (s.label ++ (⟨#[32, 68, 69, 70, 73, 78, 69, 32]⟩ : ByteArray) ++ s.name ++ (⟨#[40]⟩ : ByteArray) ++ (⟨(commaL s.params).toArray⟩ : ByteArray) ++ (⟨#[41]⟩ : ByteArray) ++ (⟨(commaL s.locals).toArray⟩ : ByteArray)) := by have h_ := hI.dep haft 14 119 rfl rfl rfl; rw [hSp] at h_; exact h_
          refine op_val (v := .string (s.label ++ (⟨#[32, 68, 69, 70, 73, 78, 69, 32]⟩ : ByteArray) ++ s.name ++ (⟨#[40]⟩ : ByteArray) ++ (⟨(commaL s.params).toArray⟩ : ByteArray) ++ (⟨#[41]⟩ : ByteArray) ++ (⟨(commaL s.locals).toArray⟩ : ByteArray) ++ (⟨#[32]⟩ : ByteArray))) ?_ (by subst hSp; exact rfl)
          simp only [execOp, resolve, invoke, List.map_toArray, List.map_cons, List.map_nil, d119]; go_simp <;> omega
        · refine op_val (v := .pointer (some ⟨N, 18, none⟩)) ?_ (by subst hSp; exact rfl)
          simp only [execOp, resolve, invoke, List.map_toArray, List.map_cons, List.map_nil, e1]; go_simp <;> omega
        · have d121 : x.eval (.tmp 121) = .pointer (some ⟨N, 18, none⟩) := by have h_ := hI.dep haft 16 121 rfl rfl rfl; rw [hSp] at h_; exact h_
          refine op_val (v := .string s.entry) ?_ (by subst hSp; exact rfl)
          simp only [execOp, resolve, invoke, List.map_toArray, List.map_cons, List.map_nil, d121]; go_simp <;> omega
        · have d120 : x.eval (.tmp 120) = .string (s.label ++ (⟨#[32, 68, 69, 70, 73, 78, 69, 32]⟩ : ByteArray) ++ s.name ++ (⟨#[40]⟩ : ByteArray) ++ (⟨(commaL s.params).toArray⟩ : ByteArray) ++ (⟨#[41]⟩ : ByteArray) ++ (⟨(commaL s.locals).toArray⟩ : ByteArray) ++ (⟨#[32]⟩ : ByteArray)) := by have h_ := hI.dep haft 15 120 rfl rfl rfl; rw [hSp] at h_; exact h_
          have d122 : x.eval (.tmp 122) = .string s.entry := by have h_ := hI.dep haft 17 122 rfl rfl rfl; rw [hSp] at h_; exact h_
          refine op_val (v := .string (s.label ++ (⟨#[32, 68, 69, 70, 73, 78, 69, 32]⟩ : ByteArray) ++ s.name ++ (⟨#[40]⟩ : ByteArray) ++ (⟨(commaL s.params).toArray⟩ : ByteArray) ++ (⟨#[41]⟩ : ByteArray) ++ (⟨(commaL s.locals).toArray⟩ : ByteArray) ++ (⟨#[32]⟩ : ByteArray) ++ s.entry)) ?_ (by subst hSp; exact rfl)
          simp only [execOp, resolve, invoke, List.map_toArray, List.map_cons, List.map_nil, d120, d122]; go_simp <;> omega
        · have d123 : x.eval (.tmp 123) = .string (s.label ++ (⟨#[32, 68, 69, 70, 73, 78, 69, 32]⟩ : ByteArray) ++ s.name ++ (⟨#[40]⟩ : ByteArray) ++ (⟨(commaL s.params).toArray⟩ : ByteArray) ++ (⟨#[41]⟩ : ByteArray) ++ (⟨(commaL s.locals).toArray⟩ : ByteArray) ++ (⟨#[32]⟩ : ByteArray) ++ s.entry) := by have h_ := hI.dep haft 18 123 rfl rfl rfl; rw [hSp] at h_; exact h_
          refine op_val (v := .string (s.label ++ (⟨#[32, 68, 69, 70, 73, 78, 69, 32]⟩ : ByteArray) ++ s.name ++ (⟨#[40]⟩ : ByteArray) ++ (⟨(commaL s.params).toArray⟩ : ByteArray) ++ (⟨#[41]⟩ : ByteArray) ++ (⟨(commaL s.locals).toArray⟩ : ByteArray) ++ (⟨#[32]⟩ : ByteArray) ++ s.entry)) ?_ (by subst hSp; exact rfl)
          simp only [execOp, resolve, invoke, List.map_toArray, List.map_cons, List.map_nil, d123]; go_simp <;> omega
      · intro f wy hK hS
        have h8_ := hS 19 _ 8 rfl rfl
        rw [hSp] at h8_
        have e8 : f 8 = .string (s.label ++ (⟨#[32, 68, 69, 70, 73, 78, 69, 32]⟩ : ByteArray) ++ s.name ++ (⟨#[40]⟩ : ByteArray) ++ (⟨(commaL s.params).toArray⟩ : ByteArray) ++ (⟨#[41]⟩ : ByteArray) ++ (⟨(commaL s.locals).toArray⟩ : ByteArray) ++ (⟨#[32]⟩ : ByteArray) ++ s.entry) := h8_
        rw [fin.out] at e8
        have K4 := Lib.hid hK
        clear hK hS h8_
        simp only [setAll, List.foldl_cons, List.foldl_nil, List.setIfInBounds_toArray, List.set_cons_zero, List.set_cons_succ, e8]
        clear e8
        go_wp2_with fail
        go_meet
        exact ⟨rfl, I3.out.next K4.out⟩
    exact absurd HR.out.kind (by omega)
  case rest =>
  obtain ⟨rfl, hI4⟩ := hcut
  obtain ⟨w4, hw4⟩ : ∃ x, x = wc := ⟨_, rfl⟩
  rw [← hw4] at hI4 ⊢
  have I4 := Lib.hid hI4
  apply_assumption
  exact pc_jump (HI.out.next I4.out)
end Go.Proofs.YtcfcdobgpldoiaaGreatDoor
