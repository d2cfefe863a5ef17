/- syntax.Wrong: what is wrong with a statement. -/
import Derived.Test.YtlnhcgihpclpaaaGreatDoorLm25
namespace Go.Proofs.YtlnhcgihpclpaaaGreatDoor
set_option linter.all false
open Go.RowKit

/-- The four labels that may be empty. -/
def labs (s : StT) : List ByteArray := [s.label, s.always, s.yes, s.noes]
def optL : List ByteArray → Bool
  | [] => true
  | x :: r => optE x && optL r
theorem optL_drop (l : List ByteArray) (j : Nat) (h : j < l.length) : optL (l.drop j) = (optE l[j] && optL (l.drop (j + 1))) := by
  rw [List.drop_eq_getElem_cons h, optL]
theorem labs_size {s : StT} (h : StSz s) (j : Nat) (hj : j < (labs s).length) : ((labs s)[j]).size < 1000000000 := by
  have : ∀ x ∈ labs s, x.size < 1000000000 := by
    intro x hx
    simp only [labs, List.mem_cons, List.not_mem_nil, or_false] at hx
    rcases hx with rfl | rfl | rfl | rfl
    · exact h.label
    · exact h.always
    · exact h.yes
    · exact h.noes
  exact this _ (List.getElem_mem hj)
theorem wrongS_labs {s : StT} (h : optL (labs s) = false) : wrongS s = 7 := by
  unfold wrongS
  rw [if_pos]
  simp only [labs, optL, Bool.and_true] at h
  intro hc
  rw [hc.1, hc.2.1, hc.2.2.1, hc.2.2.2] at h
  cases h
theorem opt_split {x : ByteArray} {b : Bool} (h : optE x = b) : (x.size = 0 ∧ x.toList.isEmpty = true ∧ b = true) ∨ (x.size ≠ 0 ∧ x.toList.isEmpty = false ∧ namedF x = b) := by
  unfold optE at h
  by_cases h0 : x.size = 0
  · exact .inl ⟨h0, isEmpty_size.2 h0, by rw [← h]; simp [h0]⟩
  · exact .inr ⟨h0, isEmpty_size'.2 (by omega), by rw [← h]; simp [h0]⟩

/-- A place to go on at always, and another one. -/
def badFit (s : StT) : Bool := !s.always.toList.isEmpty && (!s.yes.toList.isEmpty || !s.noes.toList.isEmpty)
theorem fit_cases (s : StT) : (s.always.toList.isEmpty = true ∧ badFit s = false) ∨ (s.always.toList.isEmpty = false ∧ s.yes.toList.isEmpty = false ∧ badFit s = true) ∨
    (s.always.toList.isEmpty = false ∧ s.yes.toList.isEmpty = true ∧ s.noes.toList.isEmpty = false ∧ badFit s = true) ∨ (s.always.toList.isEmpty = false ∧ s.yes.toList.isEmpty = true ∧ s.noes.toList.isEmpty = true ∧ badFit s = false) := by
  unfold badFit
  cases s.always.toList.isEmpty <;> cases s.yes.toList.isEmpty <;> cases s.noes.toList.isEmpty <;> simp
theorem badFit_iff (s : StT) : badFit s = true ↔ s.always.size ≠ 0 ∧ (s.yes.size ≠ 0 ∨ s.noes.size ≠ 0) := by
  unfold badFit
  simp only [Bool.and_eq_true, Bool.or_eq_true, Bool.not_eq_true']
  rw [isEmpty_size', isEmpty_size', isEmpty_size']
  omega
theorem labs_iff {s : StT} (h : optL (labs s) = true) : optE s.label = true ∧ optE s.always = true ∧ optE s.yes = true ∧ optE s.noes = true := by
  simpa [labs, optL] using h
theorem wrongS_fit {s : StT} (h : optL (labs s) = true) (hb : badFit s = true) : wrongS s = 8 := by
  unfold wrongS
  rw [if_neg (fun hc => hc (labs_iff h)), if_pos ((badFit_iff s).1 hb)]
/-- What is wrong, the labels being right. -/
def kindS (s : StT) : Int :=
  if s.kind = 1 then 0
  else if s.kind = 2 then exprE s.value
  else if s.kind = 4 then firstE [exprE s.value, wrongF s.pat]
  else if s.kind = 3 then firstE [exprE s.target, if isTarget s.target then 0 else 8, exprE s.value]
  else if s.kind = 5 then firstE [exprE s.target, if isTarget s.target then 0 else 8, wrongF s.pat, exprE s.value]
  else if s.kind = 6 then firstE [namedE [s.name], wrongF s.pat]
  else if s.kind = 7 then firstE [namedE [s.name], namedE s.params, namedE s.locals, namedE [s.entry], if 8 < s.params.length ∨ 8 < s.locals.length then 5 else 0]
  else 1
theorem wrongS_kind {s : StT} (h : optL (labs s) = true) (hb : badFit s = false) : wrongS s = kindS s := by
  unfold wrongS kindS
  rw [if_neg (fun hc => hc (labs_iff h)), if_neg (fun hc => by rw [(badFit_iff s).2 hc] at hb; cases hb)]

/-- The list of faults. -/
def ErrsI (s : StT) (w0 : World) (l : Value) (w : World) : Prop :=
  ∃ (es : List Int) (a : Option Addr) (c : Nat), l = .slice a es.length c ∧ es.length ≤ 10 ∧ Win w w0.heap.size 22 1 (.slice a es.length c) es.length (es.map (Value.int .i64)) ∧ Hid (kindS s = firstE es) ∧ Kept Nix w0 w

set_option maxRecDepth 100000 in
set_option maxHeartbeats 4000000 in
theorem wrong_st (s : StT) (v : Value) (S : Nat → Prop) (w : World) (hs : StV w S v s) (hS : Safe S Nix w.heap.size) : Calls Tryz.prog 25 #[v] w (IntQ (wrongS s) w) := by
  obtain ⟨a, rfl, hz, ho⟩ := hs
  unfold stVal
  have B1 := StB.new w a s
  have k1 : Kept Nix w _ := (Kept.refl Nix w).alloc (.cells (stCells a s).toArray 49)
  unfold stCells at k1
  generalize hw1 : World.alloc w _ = w1 at B1 k1
  have HB1 := Lib.hid B1; have HK1 := Lib.hid k1; have HW1 := Lib.hid hw1
  obtain ⟨c0, c1, c2, c3, c4, c5, c6, c7, c8, c9, c10, c11, c12, c13, c14, c15, c16, c17, c18, c19, c20, c21, c22, c23⟩ := B1.cells
  have HZ := Lib.hid hz
  have HO := Lib.hid ho; have HS := Lib.hid hS
  clear B1 k1 hw1 hz ho hS
  go_enter Tryz.func25, Tryz.ntmps25
  go_upto_region 1 with fail
  rw [HW1.out]
  go_upto_region 2 with fail
  obtain ⟨w2, hw2⟩ : ∃ w2, w2 = (w1.alloc (.cells #[.string s.label, .string s.always, .string s.yes, .string s.noes] 9)) := ⟨_, rfl⟩
  rw [← hw2]
  have hrow : w2.heap[w1.heap.size]? = some (.cells ((labs s).map Value.string).toArray 9 (0, 0)) := by rw [hw2]; exact heap_alloc_new w1 _
  have k2 : Kept Nix w1 w2 := by rw [hw2]; exact (Kept.refl Nix _).alloc _
  have HL : Hid (StrsAt w2 (· = w1.heap.size) (some ⟨w1.heap.size, 0, none⟩) (labs s)) := strs_row hrow rfl
  have HB2 := Lib.hid (HB1.out.kept k2 (fun h => h)); have HK2 := Lib.hid (HK1.out.trans k2)
  clear hrow hw2 k2 c0 c1 c2 c3 c4 c5 c6 c7 c8 c9 c10 c11 c12 c13 c14 c15 c16 c17 c18 c19 c20 c21 c22 c23 HW1 HB1 HK1
  go_loop [18] (fun i => ∃ j : Nat, j ≤ 4 ∧ i = .int .i64 j ∧ Hid (optL (labs s) = optL ((labs s).drop j))) (fun i => 4 - (intOf i).toNat)
  case atStart => exact ⟨0, Nat.zero_le _, rfl, by unfold Hid; rw [List.drop_zero]⟩
  case round =>
    obtain ⟨j, hj, rfl, hno⟩ := hrel
    by_cases hlt : j < 4
    · have hcj : w2.cell? ⟨w1.heap.size, 0 + j, none⟩ = some (.string (labs s)[j]) := by
        obtain ⟨b, o, e, _, hc⟩ := HL.out (by show 0 < 4; decide)
        simp only [Option.some.injEq, Addr.mk.injEq, and_true] at e
        obtain ⟨rfl, rfl⟩ := e
        exact hc j hlt
      rw [Nat.zero_add] at hcj
      have hd := optL_drop (labs s) j hlt
      have hsz := labs_size HZ.out j hlt
      have hsl : ((labs s)[j]).size ≤ maxLen := by unfold maxLen; omega
      generalize (labs s)[j] = x at hcj hd hsz hsl
      have hn := Lib.hid hno.out
      cases hb : optE x with
      | true =>
        rw [hb, Bool.true_and] at hd
        have step := Lib.hid (hno.out.trans hd)
        rcases opt_split hb with ⟨_, e1, _⟩ | ⟨_, e1, e2⟩
        · clear hd hb
          go_wp2_with fail
          go_round
          case rel => exact ⟨j + 1, by omega, by go_num, step⟩
          case measure => simp [intOf]; omega
        · have E2 := Lib.hid e2
          clear hd hb e2
          go_wp2_with (go_at_call 51; (with_reducible refine (named_any _ _ hsl).mono ?_); rintro e w' ⟨rfl, rfl⟩; rw [E2.out])
          go_round
          case rel => exact ⟨j + 1, by omega, by go_num, step⟩
          case measure => simp [intOf]; omega
      | false =>
        rw [hb, Bool.false_and] at hd
        have fin := Lib.hid (wrongS_labs (hno.out.trans hd))
        rcases opt_split hb with ⟨_, _, e2⟩ | ⟨_, e1, e2⟩
        · cases e2
        · have E2 := Lib.hid e2
          clear hd hb e2
          go_wp2_with (go_at_call 51; (with_reducible refine (named_any _ _ hsl).mono ?_); rintro e w' ⟨rfl, rfl⟩; rw [E2.out])
          go_ret
          exact ⟨by rw [fin.out]; try rfl, HK2.out⟩
    · obtain rfl : j = 4 := by omega
      have hlab : Hid (optL (labs s) = true) := by unfold Hid; rw [hno.out]; rfl
      obtain ⟨c0, c1, c2, c3, c4, c5, c6, c7, c8, c9, c10, c11, c12, c13, c14, c15, c16, c17, c18, c19, c20, c21, c22, c23⟩ := HB2.out.cells
      go_upto_region 7 with fail
      go_cut [42] (fun c wx => c = .bool (badFit s) ∧ w2 = wx)
      case first =>
        rcases fit_cases s with ⟨e1, e2⟩ | ⟨e1, e2, e3⟩ | ⟨e1, e2, e3, e4⟩ | ⟨e1, e2, e3, e4⟩
        all_goals
          clear HL HO HS HZ
          go_wp2_with fail
          go_meet
          exact ⟨by first | rw [e2] | rw [e3] | rw [e4], rfl⟩
      case rest =>
        obtain ⟨rfl, rfl⟩ := hcut
        cases hbad : badFit s with
        | true =>
          have fin := Lib.hid (wrongS_fit hlab.out hbad)
          clear hbad
          go_wp2_with fail
          go_ret
          exact ⟨by rw [fin.out]; try rfl, HK2.out⟩
        | false =>
          have heq := Lib.hid (wrongS_kind hlab.out hbad)
          clear hbad
          have HO2 : Hid (StOk w2 S a s) := HO.out.to HK2.out HS.out (fun _ h => h)
          go_upto_block 2 with fail
          go_cut [5] (fun l wx => ErrsI s w2 l wx)
          case first =>
            clear HL hj hno hlt hlab
            have PVtarget : Hid (PatV w2 S (.agg #[.int .i64 s.target.kind, .string s.target.text, .int .i64 s.target.n, .string s.target.name, .slice a.ta s.target.kids.length a.tc]) s.target) := ⟨a.ta, a.tc, rfl, HZ.out.target.z, HO2.out.target⟩
            have PVvalue : Hid (PatV w2 S (.agg #[.int .i64 s.value.kind, .string s.value.text, .int .i64 s.value.n, .string s.value.name, .slice a.va s.value.kids.length a.vc]) s.value) := ⟨a.va, a.vc, rfl, HZ.out.value.z, HO2.out.value⟩
            have PVpat : Hid (PatV w2 S (.agg #[.int .i64 s.pat.kind, .string s.pat.text, .int .i64 s.pat.n, .string s.pat.name, .slice a.pa s.pat.kids.length a.pc]) s.pat) := ⟨a.pa, a.pc, rfl, HZ.out.pat.z, HO2.out.pat⟩
            have SS : Hid (Safe S Nix w2.heap.size) := HS.out.mono HK2.out.size
            have K2r : Hid (Kept Nix w2 w2) := Kept.refl _ _
            by_cases hkd : s.kind = 1
            · have EK : Hid (kindS s = firstE []) := by unfold Hid; unfold kindS; rw [if_pos hkd]; rfl
              have z1 : (s.kind == 1) = true := by rw [hkd]; rfl
              clear hkd
              go_wp2_with fail
              go_meet
              exact ⟨[], none, 0, rfl, by simp, Win.nil .., EK, Kept.refl _ _⟩
            have n1 := hkd; clear hkd
            by_cases hkd : s.kind = 2
            · have EK : Hid (kindS s = firstE [exprE s.value]) := by unfold Hid; unfold kindS; rw [if_neg (by omega), if_pos hkd]; simp [firstE]
              have z1 : (s.kind == 1) = false := by rw [hkd]; rfl
              have z2 : (s.kind == 2) = true := by rw [hkd]; rfl
              clear hkd
              go_wp2_with fail
              refine (Expr_any s.value _ S _ (PVvalue.out.keepN K2r.out SS.out) (SS.out.mono K2r.out.size) (by have := HZ.out.value.t; omega)).mono ?_
              rintro e w3 ⟨rfl, k_⟩
              have K3 := Lib.hid (K2r.out.trans k_)
              clear k_
              clear c0 c1 c2 c3 c4 c5 c6 c7 c8 c9 c10 c11 c12 c13 c14 c15 c16 c17 c18 c19 c20 c21 c22 c23; obtain ⟨c0, c1, c2, c3, c4, c5, c6, c7, c8, c9, c10, c11, c12, c13, c14, c15, c16, c17, c18, c19, c20, c21, c22, c23⟩ := (HB2.out.kept K3.out (fun h => h)).cells
              go_wp2_with (at_builtin; go_loud (refine wpList_err (w0 := w2) rfl _ _ rfl (.slice none 0 0) 0 [] rfl w2.heap.size (Win.nil ..) [exprE s.value] w3.heap.size rfl (heap_alloc_new _ _) (by simp) (by have := K3.out.size; simp; omega) (K3.out.alloc _) (Nat.le_refl _) ?_); intro a4 c_4 w4 hW_ hK_ _; have HW4 : Hid (Win w4 w2.heap.size 22 1 (.slice a4 1 c_4) 1 [.int .i64 (exprE s.value)]) := hW_; have K4 := Lib.hid hK_; clear hW_ hK_; clear c0 c1 c2 c3 c4 c5 c6 c7 c8 c9 c10 c11 c12 c13 c14 c15 c16 c17 c18 c19 c20 c21 c22 c23; obtain ⟨c0, c1, c2, c3, c4, c5, c6, c7, c8, c9, c10, c11, c12, c13, c14, c15, c16, c17, c18, c19, c20, c21, c22, c23⟩ := (HB2.out.kept K4.out (fun h => h)).cells)
              go_meet
              exact ⟨[exprE s.value], a4, c_4, rfl, by simp, HW4.out, EK, K4.out⟩
            have n2 := hkd; clear hkd
            by_cases hkd : s.kind = 4
            · have z1 : (s.kind == 1) = false := by rw [hkd]; rfl
              have z2 : (s.kind == 2) = false := by rw [hkd]; rfl
              have z4 : (s.kind == 4) = true := by rw [hkd]; rfl
              have EK : Hid (kindS s = firstE [exprE s.value, wrongF s.pat]) := by unfold Hid; unfold kindS; rw [if_neg (by omega), if_neg (by omega), if_pos hkd]
              clear hkd
              go_upto_region 16 with fail
              obtain ⟨Sp, hSp⟩ : ∃ Sp : Nat → Value → World → Prop, Sp = (fun i v wx => match i with
                | 0 => v = .slice none 0 0
                | 1 => v = .pointer (some ⟨w.heap.size, 7, none⟩)
                | 2 => v = .agg #[.int .i64 s.value.kind, .string s.value.text, .int .i64 s.value.n, .string s.value.name, .slice a.va s.value.kids.length a.vc]
                | 3 => v = .int .i64 (exprE s.value)
                | 4 => v = .pointer (some ⟨w.heap.size, 12, none⟩)
                | 5 => v = .agg #[.int .i64 s.pat.kind, .string s.pat.text, .int .i64 s.pat.n, .string s.pat.name, .slice a.pa s.pat.kids.length a.pc]
                | 6 => v = .int .i64 (wrongF s.pat)
                | 7 => ∃ g, v = .slice (some ⟨g, 0, none⟩) 2 2 ∧ g < wx.heap.size ∧ wx.heap[g]? = some (.cells #[.int .i64 (exprE s.value), .int .i64 (wrongF s.pat)] 22 (0, 0))
                | 8 => ∃ a' c', v = .slice a' 2 c' ∧ Win wx w2.heap.size 22 1 (.slice a' 2 c') 2 [.int .i64 (exprE s.value), .int .i64 (wrongF s.pat)]
                | _ => ∃ a' c', v = .slice a' 2 c' ∧ Win wx w2.heap.size 22 1 (.slice a' 2 c') 2 [.int .i64 (exprE s.value), .int .i64 (wrongF s.pat)]) := ⟨_, rfl⟩
              refine wp_specs2 Sp [57, 58, 59, 60, 61, 62, 63, 64, 65, 5] (by kernel_rfl) (by kernel_rfl) (by kernel_rfl) (fun i v w w' h hk => by
                  subst hSp
                  rcases i with _ | _ | _ | _ | _ | _ | _ | _ | _ | _ | i
                  all_goals (first
                    | exact h
                    | (obtain ⟨g, h1, h2, h3⟩ := h; exact ⟨g, h1, Nat.lt_of_lt_of_le h2 hk.size, by rw [hk.block g h2 (fun h => h)]; exact h3⟩)
                    | (obtain ⟨a, c, h1, h2⟩ := h; exact ⟨a, c, h1, h2.kept hk (fun _ _ h => h)⟩))) ?_ ?_
              · intro i o hi l x wy hI hlf haft
                have e1 : x.eval (.tmp 1) = .pointer (some ⟨w.heap.size, 0, none⟩) := hI.keep 1 _ rfl (by kernel_rfl)
                have hO2 := HO2.out
                have B3 := HB2.out.kept hI.kept (fun h => h)
                clear c0 c1 c2 c3 c4 c5 c6 c7 c8 c9 c10 c11 c12 c13 c14 c15 c16 c17 c18 c19 c20 c21 c22 c23
                obtain ⟨c0, c1, c2, c3, c4, c5, c6, c7, c8, c9, c10, c11, c12, c13, c14, c15, c16, c17, c18, c19, c20, c21, c22, c23⟩ := B3.cells
                rcases i with _ | _ | _ | _ | _ | _ | _ | _ | _ | _ | i
                all_goals (simp only [List.getElem?_toArray, List.getElem?_cons_zero, List.getElem?_cons_succ, List.getElem?_nil, Option.some.injEq, reduceCtorEq] at hi)
                all_goals subst hi
                · have e5 : x.eval (.tmp 5) = .slice none 0 0 := hI.late hlf 9 5 rfl rfl rfl _ rfl
                  refine op_val (v := .slice none 0 0) ?_ (by subst hSp; exact rfl)
                  simp only [execOp, resolve, invoke, List.map_toArray, List.map_cons, List.map_nil, e5]; go_simp
                · refine op_val (v := .pointer (some ⟨w.heap.size, 7, none⟩)) ?_ (by subst hSp; exact rfl)
                  simp only [execOp, resolve, invoke, List.map_toArray, List.map_cons, List.map_nil, e1]; go_simp
                · have d58 : x.eval (.tmp 58) = .pointer (some ⟨w.heap.size, 7, none⟩) := by have h_ := hI.dep haft 1 58 rfl rfl rfl; rw [hSp] at h_; exact h_
                  refine op_val (v := .agg #[.int .i64 s.value.kind, .string s.value.text, .int .i64 s.value.n, .string s.value.name, .slice a.va s.value.kids.length a.vc]) ?_ (by subst hSp; exact rfl)
                  simp only [execOp, resolve, invoke, List.map_toArray, List.map_cons, List.map_nil, d58]; go_simp
                · have d59 : x.eval (.tmp 59) = .agg #[.int .i64 s.value.kind, .string s.value.text, .int .i64 s.value.n, .string s.value.name, .slice a.va s.value.kids.length a.vc] := by have h_ := hI.dep haft 2 59 rfl rfl rfl; rw [hSp] at h_; exact h_
                  refine op_call (f := 52) (args := #[.agg #[.int .i64 s.value.kind, .string s.value.text, .int .i64 s.value.n, .string s.value.name, .slice a.va s.value.kids.length a.vc]]) ?_ ?_
                  · simp only [execOp, resolve, invoke, List.map_toArray, List.map_cons, List.map_nil, d59]; go_simp
                  · exact (Expr_any s.value _ S _ (PVvalue.out.keepN hI.kept SS.out) (SS.out.mono hI.kept.size) (by have := HZ.out.value.t; omega)).mono fun e w' h => ⟨_, h.1, by subst hSp; exact rfl, h.2⟩
                · refine op_val (v := .pointer (some ⟨w.heap.size, 12, none⟩)) ?_ (by subst hSp; exact rfl)
                  simp only [execOp, resolve, invoke, List.map_toArray, List.map_cons, List.map_nil, e1]; go_simp
                · have d61 : x.eval (.tmp 61) = .pointer (some ⟨w.heap.size, 12, none⟩) := by have h_ := hI.dep haft 4 61 rfl rfl rfl; rw [hSp] at h_; exact h_
                  refine op_val (v := .agg #[.int .i64 s.pat.kind, .string s.pat.text, .int .i64 s.pat.n, .string s.pat.name, .slice a.pa s.pat.kids.length a.pc]) ?_ (by subst hSp; exact rfl)
                  simp only [execOp, resolve, invoke, List.map_toArray, List.map_cons, List.map_nil, d61]; go_simp
                · have d62 : x.eval (.tmp 62) = .agg #[.int .i64 s.pat.kind, .string s.pat.text, .int .i64 s.pat.n, .string s.pat.name, .slice a.pa s.pat.kids.length a.pc] := by have h_ := hI.dep haft 5 62 rfl rfl rfl; rw [hSp] at h_; exact h_
                  refine op_call (f := 53) (args := #[.agg #[.int .i64 s.pat.kind, .string s.pat.text, .int .i64 s.pat.n, .string s.pat.name, .slice a.pa s.pat.kids.length a.pc]]) ?_ ?_
                  · simp only [execOp, resolve, invoke, List.map_toArray, List.map_cons, List.map_nil, d62]; go_simp
                  · exact (Wrong_any s.pat _ _ ((PVpat.out.keepN hI.kept SS.out).all (SS.out.mono hI.kept.size)) (by have := HZ.out.pat.t; omega)).mono fun e w' h => ⟨_, h.1, by subst hSp; exact rfl, h.2⟩
                · have d60 : x.eval (.tmp 60) = .int .i64 (exprE s.value) := by have h_ := hI.dep haft 3 60 rfl rfl rfl; rw [hSp] at h_; exact h_
                  have d63 : x.eval (.tmp 63) = .int .i64 (wrongF s.pat) := by have h_ := hI.dep haft 6 63 rfl rfl rfl; rw [hSp] at h_; exact h_
                  refine op_new (v := .slice (some ⟨wy.heap.size, 0, none⟩) 2 2) (w' := wy.alloc (.cells #[.int .i64 (exprE s.value), .int .i64 (wrongF s.pat)] 22)) ?_ ((Kept.refl _ _).alloc _) (by subst hSp; exact ⟨_, rfl, by simp, heap_alloc_new _ _⟩)
                  simp only [execOp, resolve, invoke, List.map_toArray, List.map_cons, List.map_nil, d60, d63]; go_simp
                · have d57 : x.eval (.tmp 57) = .slice none 0 0 := by have h_ := hI.dep haft 0 57 rfl rfl rfl; rw [hSp] at h_; exact h_
                  have d64 : ∃ g, x.eval (.tmp 64) = .slice (some ⟨g, 0, none⟩) 2 2 ∧ g < wy.heap.size ∧ wy.heap[g]? = some (.cells #[.int .i64 (exprE s.value), .int .i64 (wrongF s.pat)] 22 (0, 0)) := by have h_ := hI.dep haft 7 64 rfl rfl rfl; rw [hSp] at h_; exact h_
                  obtain ⟨g, hv, _, hg⟩ := d64
                  exact op_err _ _ rfl d57 [exprE s.value, wrongF s.pat] g hv hg (by simp) w2.heap.size hI.kept.size fun a' c' w' hW => by subst hSp; exact ⟨a', c', rfl, hW⟩
                · have d65 : ∃ a' c', x.eval (.tmp 65) = .slice a' 2 c' ∧ Win wy w2.heap.size 22 1 (.slice a' 2 c') 2 [.int .i64 (exprE s.value), .int .i64 (wrongF s.pat)] := by have h_ := hI.dep haft 8 65 rfl rfl rfl; rw [hSp] at h_; exact h_
                  obtain ⟨a', c', hv, hW⟩ := d65
                  refine op_val (v := .slice a' 2 c') ?_ (by subst hSp; exact ⟨_, _, rfl, hW⟩)
                  simp only [execOp, resolve, invoke, List.map_toArray, List.map_cons, List.map_nil, hv]; go_simp
              · intro f wy hK hS
                have h5_ := hS 9 _ 5 rfl rfl
                rw [hSp] at h5_
                obtain ⟨a4, c_4, e5, HW_⟩ := h5_
                have HW4 : Hid (Win wy w2.heap.size 22 1 (.slice a4 2 c_4) 2 [.int .i64 (exprE s.value), .int .i64 (wrongF s.pat)]) := HW_
                have K4 := Lib.hid hK
                clear hK hS HW_
                clear c0 c1 c2 c3 c4 c5 c6 c7 c8 c9 c10 c11 c12 c13 c14 c15 c16 c17 c18 c19 c20 c21 c22 c23; obtain ⟨c0, c1, c2, c3, c4, c5, c6, c7, c8, c9, c10, c11, c12, c13, c14, c15, c16, c17, c18, c19, c20, c21, c22, c23⟩ := (HB2.out.kept K4.out (fun h => h)).cells
                simp only [setAll, List.foldl_cons, List.foldl_nil, List.setIfInBounds_toArray, List.set_cons_zero, List.set_cons_succ, e5]
                clear e5
                go_wp2_with fail
                go_meet
                exact ⟨[exprE s.value, wrongF s.pat], a4, c_4, rfl, by simp, HW4.out, EK, K4.out⟩
            have n4 := hkd; clear hkd
            by_cases hkd : s.kind = 3
            · have z1 : (s.kind == 1) = false := by rw [hkd]; rfl
              have z2 : (s.kind == 2) = false := by rw [hkd]; rfl
              have z4 : (s.kind == 4) = false := by rw [hkd]; rfl
              have z3 : (s.kind == 3) = true := by rw [hkd]; rfl
              have z5 : (s.kind == 5) = false := by rw [hkd]; rfl
              have HKD := Lib.hid hkd
              clear hkd
              go_wp2_with fail
              refine (Expr_any s.target _ S _ (PVtarget.out.keepN K2r.out SS.out) (SS.out.mono K2r.out.size) (by have := HZ.out.target.t; omega)).mono ?_
              rintro e w3 ⟨rfl, k_⟩
              have K3 := Lib.hid (K2r.out.trans k_)
              clear k_
              clear c0 c1 c2 c3 c4 c5 c6 c7 c8 c9 c10 c11 c12 c13 c14 c15 c16 c17 c18 c19 c20 c21 c22 c23; obtain ⟨c0, c1, c2, c3, c4, c5, c6, c7, c8, c9, c10, c11, c12, c13, c14, c15, c16, c17, c18, c19, c20, c21, c22, c23⟩ := (HB2.out.kept K3.out (fun h => h)).cells
              go_wp2_with (at_builtin; go_loud (refine wpList_err (w0 := w2) rfl _ _ rfl (.slice none 0 0) 0 [] rfl w2.heap.size (Win.nil ..) [exprE s.target] w3.heap.size rfl (heap_alloc_new _ _) (by simp) (by have := K3.out.size; simp; omega) (K3.out.alloc _) (Nat.le_refl _) ?_); intro a4 c_4 w4 hW_ hK_ _; have HW4 : Hid (Win w4 w2.heap.size 22 1 (.slice a4 1 c_4) 1 [.int .i64 (exprE s.target)]) := hW_; have K4 := Lib.hid hK_; clear hW_ hK_; clear c0 c1 c2 c3 c4 c5 c6 c7 c8 c9 c10 c11 c12 c13 c14 c15 c16 c17 c18 c19 c20 c21 c22 c23; obtain ⟨c0, c1, c2, c3, c4, c5, c6, c7, c8, c9, c10, c11, c12, c13, c14, c15, c16, c17, c18, c19, c20, c21, c22, c23⟩ := (HB2.out.kept K4.out (fun h => h)).cells)
              refine (target_any s.target _ S _ (PVtarget.out.keepN K4.out SS.out)).mono ?_
              rintro e w5 ⟨rfl, k_⟩
              have K5 := Lib.hid (K4.out.trans k_)
              have HW5 := Lib.hid (HW4.out.kept k_ (fun _ _ h => h))
              clear k_
              clear c0 c1 c2 c3 c4 c5 c6 c7 c8 c9 c10 c11 c12 c13 c14 c15 c16 c17 c18 c19 c20 c21 c22 c23; obtain ⟨c0, c1, c2, c3, c4, c5, c6, c7, c8, c9, c10, c11, c12, c13, c14, c15, c16, c17, c18, c19, c20, c21, c22, c23⟩ := (HB2.out.kept K5.out (fun h => h)).cells
              by_cases ht : isTarget s.target
              · have EK : Hid (kindS s = firstE [exprE s.target, exprE s.value]) := by have hkd := HKD.out; unfold Hid; unfold kindS; rw [if_neg (by omega), if_neg (by omega), if_neg (by omega), if_pos hkd]; rw [if_pos ht]; simp [firstE]
                have hb : decide (isTarget s.target) = true := decide_eq_true ht
                rw [hb]
                clear hb ht
                go_wp2_with fail
                refine (Expr_any s.value _ S _ (PVvalue.out.keepN K5.out SS.out) (SS.out.mono K5.out.size) (by have := HZ.out.value.t; omega)).mono ?_
                rintro e w6 ⟨rfl, k_⟩
                have K6 := Lib.hid (K5.out.trans k_)
                have HW6 := Lib.hid (HW5.out.kept k_ (fun _ _ h => h))
                clear k_
                clear c0 c1 c2 c3 c4 c5 c6 c7 c8 c9 c10 c11 c12 c13 c14 c15 c16 c17 c18 c19 c20 c21 c22 c23; obtain ⟨c0, c1, c2, c3, c4, c5, c6, c7, c8, c9, c10, c11, c12, c13, c14, c15, c16, c17, c18, c19, c20, c21, c22, c23⟩ := (HB2.out.kept K6.out (fun h => h)).cells
                go_wp2_with (at_builtin; go_loud (refine wpList_err (w0 := w2) rfl _ _ rfl (.slice a4 1 c_4) 1 [.int .i64 (exprE s.target)] rfl w2.heap.size (HW6.out.alloc _) [exprE s.value] w6.heap.size rfl (heap_alloc_new _ _) (by simp) (by have := K6.out.size; simp; omega) (K6.out.alloc _) (Nat.le_refl _) ?_); intro a7 c_7 w7 hW_ hK_ _; have HW7 : Hid (Win w7 w2.heap.size 22 1 (.slice a7 2 c_7) 2 [.int .i64 (exprE s.target), .int .i64 (exprE s.value)]) := hW_; have K7 := Lib.hid hK_; clear hW_ hK_; clear c0 c1 c2 c3 c4 c5 c6 c7 c8 c9 c10 c11 c12 c13 c14 c15 c16 c17 c18 c19 c20 c21 c22 c23; obtain ⟨c0, c1, c2, c3, c4, c5, c6, c7, c8, c9, c10, c11, c12, c13, c14, c15, c16, c17, c18, c19, c20, c21, c22, c23⟩ := (HB2.out.kept K7.out (fun h => h)).cells)
                go_meet
                exact ⟨[exprE s.target, exprE s.value], a7, c_7, rfl, by simp, HW7.out, EK, K7.out⟩
              · have EK : Hid (kindS s = firstE [exprE s.target, 8, exprE s.value]) := by have hkd := HKD.out; unfold Hid; unfold kindS; rw [if_neg (by omega), if_neg (by omega), if_neg (by omega), if_pos hkd]; rw [if_neg ht]
                have hb : decide (isTarget s.target) = false := decide_eq_false ht
                rw [hb]
                clear hb ht
                go_wp2_with (at_builtin; go_loud (refine wpList_err (w0 := w2) rfl _ _ rfl (.slice a4 1 c_4) 1 [.int .i64 (exprE s.target)] rfl w2.heap.size (HW5.out.alloc _) [8] w5.heap.size rfl (heap_alloc_new _ _) (by simp) (by have := K5.out.size; simp; omega) (K5.out.alloc _) (Nat.le_refl _) ?_); intro a6 c_6 w6 hW_ hK_ _; have HW6 : Hid (Win w6 w2.heap.size 22 1 (.slice a6 2 c_6) 2 [.int .i64 (exprE s.target), .int .i64 (8)]) := hW_; have K6 := Lib.hid hK_; clear hW_ hK_; clear c0 c1 c2 c3 c4 c5 c6 c7 c8 c9 c10 c11 c12 c13 c14 c15 c16 c17 c18 c19 c20 c21 c22 c23; obtain ⟨c0, c1, c2, c3, c4, c5, c6, c7, c8, c9, c10, c11, c12, c13, c14, c15, c16, c17, c18, c19, c20, c21, c22, c23⟩ := (HB2.out.kept K6.out (fun h => h)).cells)
                refine (Expr_any s.value _ S _ (PVvalue.out.keepN K6.out SS.out) (SS.out.mono K6.out.size) (by have := HZ.out.value.t; omega)).mono ?_
                rintro e w7 ⟨rfl, k_⟩
                have K7 := Lib.hid (K6.out.trans k_)
                have HW7 := Lib.hid (HW6.out.kept k_ (fun _ _ h => h))
                clear k_
                clear c0 c1 c2 c3 c4 c5 c6 c7 c8 c9 c10 c11 c12 c13 c14 c15 c16 c17 c18 c19 c20 c21 c22 c23; obtain ⟨c0, c1, c2, c3, c4, c5, c6, c7, c8, c9, c10, c11, c12, c13, c14, c15, c16, c17, c18, c19, c20, c21, c22, c23⟩ := (HB2.out.kept K7.out (fun h => h)).cells
                go_wp2_with (at_builtin; go_loud (refine wpList_err (w0 := w2) rfl _ _ rfl (.slice a6 2 c_6) 2 [.int .i64 (exprE s.target), .int .i64 (8)] rfl w2.heap.size (HW7.out.alloc _) [exprE s.value] w7.heap.size rfl (heap_alloc_new _ _) (by simp) (by have := K7.out.size; simp; omega) (K7.out.alloc _) (Nat.le_refl _) ?_); intro a8 c_8 w8 hW_ hK_ _; have HW8 : Hid (Win w8 w2.heap.size 22 1 (.slice a8 3 c_8) 3 [.int .i64 (exprE s.target), .int .i64 (8), .int .i64 (exprE s.value)]) := hW_; have K8 := Lib.hid hK_; clear hW_ hK_; clear c0 c1 c2 c3 c4 c5 c6 c7 c8 c9 c10 c11 c12 c13 c14 c15 c16 c17 c18 c19 c20 c21 c22 c23; obtain ⟨c0, c1, c2, c3, c4, c5, c6, c7, c8, c9, c10, c11, c12, c13, c14, c15, c16, c17, c18, c19, c20, c21, c22, c23⟩ := (HB2.out.kept K8.out (fun h => h)).cells)
                go_meet
                exact ⟨[exprE s.target, 8, exprE s.value], a8, c_8, rfl, by simp, HW8.out, EK, K8.out⟩
            have n3 := hkd; clear hkd
            by_cases hkd : s.kind = 5
            · have z1 : (s.kind == 1) = false := by rw [hkd]; rfl
              have z2 : (s.kind == 2) = false := by rw [hkd]; rfl
              have z4 : (s.kind == 4) = false := by rw [hkd]; rfl
              have z3 : (s.kind == 3) = false := by rw [hkd]; rfl
              have z5 : (s.kind == 5) = true := by rw [hkd]; rfl
              have z5' : (s.kind == 5) = true := by rw [hkd]; rfl
              have HKD := Lib.hid hkd
              clear hkd
              go_wp2_with fail
              refine (Expr_any s.target _ S _ (PVtarget.out.keepN K2r.out SS.out) (SS.out.mono K2r.out.size) (by have := HZ.out.target.t; omega)).mono ?_
              rintro e w3 ⟨rfl, k_⟩
              have K3 := Lib.hid (K2r.out.trans k_)
              clear k_
              clear c0 c1 c2 c3 c4 c5 c6 c7 c8 c9 c10 c11 c12 c13 c14 c15 c16 c17 c18 c19 c20 c21 c22 c23; obtain ⟨c0, c1, c2, c3, c4, c5, c6, c7, c8, c9, c10, c11, c12, c13, c14, c15, c16, c17, c18, c19, c20, c21, c22, c23⟩ := (HB2.out.kept K3.out (fun h => h)).cells
              go_wp2_with (at_builtin; go_loud (refine wpList_err (w0 := w2) rfl _ _ rfl (.slice none 0 0) 0 [] rfl w2.heap.size (Win.nil ..) [exprE s.target] w3.heap.size rfl (heap_alloc_new _ _) (by simp) (by have := K3.out.size; simp; omega) (K3.out.alloc _) (Nat.le_refl _) ?_); intro a4 c_4 w4 hW_ hK_ _; have HW4 : Hid (Win w4 w2.heap.size 22 1 (.slice a4 1 c_4) 1 [.int .i64 (exprE s.target)]) := hW_; have K4 := Lib.hid hK_; clear hW_ hK_; clear c0 c1 c2 c3 c4 c5 c6 c7 c8 c9 c10 c11 c12 c13 c14 c15 c16 c17 c18 c19 c20 c21 c22 c23; obtain ⟨c0, c1, c2, c3, c4, c5, c6, c7, c8, c9, c10, c11, c12, c13, c14, c15, c16, c17, c18, c19, c20, c21, c22, c23⟩ := (HB2.out.kept K4.out (fun h => h)).cells)
              refine (target_any s.target _ S _ (PVtarget.out.keepN K4.out SS.out)).mono ?_
              rintro e w5 ⟨rfl, k_⟩
              have K5 := Lib.hid (K4.out.trans k_)
              have HW5 := Lib.hid (HW4.out.kept k_ (fun _ _ h => h))
              clear k_
              clear c0 c1 c2 c3 c4 c5 c6 c7 c8 c9 c10 c11 c12 c13 c14 c15 c16 c17 c18 c19 c20 c21 c22 c23; obtain ⟨c0, c1, c2, c3, c4, c5, c6, c7, c8, c9, c10, c11, c12, c13, c14, c15, c16, c17, c18, c19, c20, c21, c22, c23⟩ := (HB2.out.kept K5.out (fun h => h)).cells
              by_cases ht : isTarget s.target
              · have EK : Hid (kindS s = firstE [exprE s.target, wrongF s.pat, exprE s.value]) := by have hkd := HKD.out; unfold Hid; unfold kindS; rw [if_neg (by omega), if_neg (by omega), if_neg (by omega), if_neg (by omega), if_pos hkd]; rw [if_pos ht]; simp [firstE]
                have hb : decide (isTarget s.target) = true := decide_eq_true ht
                rw [hb]
                clear hb ht
                go_wp2_with fail
                refine (Wrong_any s.pat _ _ ((PVpat.out.keepN K5.out SS.out).all (SS.out.mono K5.out.size)) (by have := HZ.out.pat.t; omega)).mono ?_
                rintro e w6 ⟨rfl, k_⟩
                have K6 := Lib.hid (K5.out.trans k_)
                have HW6 := Lib.hid (HW5.out.kept k_ (fun _ _ h => h))
                clear k_
                clear c0 c1 c2 c3 c4 c5 c6 c7 c8 c9 c10 c11 c12 c13 c14 c15 c16 c17 c18 c19 c20 c21 c22 c23; obtain ⟨c0, c1, c2, c3, c4, c5, c6, c7, c8, c9, c10, c11, c12, c13, c14, c15, c16, c17, c18, c19, c20, c21, c22, c23⟩ := (HB2.out.kept K6.out (fun h => h)).cells
                go_wp2_with (at_builtin; go_loud (refine wpList_err (w0 := w2) rfl _ _ rfl (.slice a4 1 c_4) 1 [.int .i64 (exprE s.target)] rfl w2.heap.size (HW6.out.alloc _) [wrongF s.pat] w6.heap.size rfl (heap_alloc_new _ _) (by simp) (by have := K6.out.size; simp; omega) (K6.out.alloc _) (Nat.le_refl _) ?_); intro a7 c_7 w7 hW_ hK_ _; have HW7 : Hid (Win w7 w2.heap.size 22 1 (.slice a7 2 c_7) 2 [.int .i64 (exprE s.target), .int .i64 (wrongF s.pat)]) := hW_; have K7 := Lib.hid hK_; clear hW_ hK_; clear c0 c1 c2 c3 c4 c5 c6 c7 c8 c9 c10 c11 c12 c13 c14 c15 c16 c17 c18 c19 c20 c21 c22 c23; obtain ⟨c0, c1, c2, c3, c4, c5, c6, c7, c8, c9, c10, c11, c12, c13, c14, c15, c16, c17, c18, c19, c20, c21, c22, c23⟩ := (HB2.out.kept K7.out (fun h => h)).cells)
                refine (Expr_any s.value _ S _ (PVvalue.out.keepN K7.out SS.out) (SS.out.mono K7.out.size) (by have := HZ.out.value.t; omega)).mono ?_
                rintro e w8 ⟨rfl, k_⟩
                have K8 := Lib.hid (K7.out.trans k_)
                have HW8 := Lib.hid (HW7.out.kept k_ (fun _ _ h => h))
                clear k_
                clear c0 c1 c2 c3 c4 c5 c6 c7 c8 c9 c10 c11 c12 c13 c14 c15 c16 c17 c18 c19 c20 c21 c22 c23; obtain ⟨c0, c1, c2, c3, c4, c5, c6, c7, c8, c9, c10, c11, c12, c13, c14, c15, c16, c17, c18, c19, c20, c21, c22, c23⟩ := (HB2.out.kept K8.out (fun h => h)).cells
                go_wp2_with (at_builtin; go_loud (refine wpList_err (w0 := w2) rfl _ _ rfl (.slice a7 2 c_7) 2 [.int .i64 (exprE s.target), .int .i64 (wrongF s.pat)] rfl w2.heap.size (HW8.out.alloc _) [exprE s.value] w8.heap.size rfl (heap_alloc_new _ _) (by simp) (by have := K8.out.size; simp; omega) (K8.out.alloc _) (Nat.le_refl _) ?_); intro a9 c_9 w9 hW_ hK_ _; have HW9 : Hid (Win w9 w2.heap.size 22 1 (.slice a9 3 c_9) 3 [.int .i64 (exprE s.target), .int .i64 (wrongF s.pat), .int .i64 (exprE s.value)]) := hW_; have K9 := Lib.hid hK_; clear hW_ hK_; clear c0 c1 c2 c3 c4 c5 c6 c7 c8 c9 c10 c11 c12 c13 c14 c15 c16 c17 c18 c19 c20 c21 c22 c23; obtain ⟨c0, c1, c2, c3, c4, c5, c6, c7, c8, c9, c10, c11, c12, c13, c14, c15, c16, c17, c18, c19, c20, c21, c22, c23⟩ := (HB2.out.kept K9.out (fun h => h)).cells)
                go_meet
                exact ⟨[exprE s.target, wrongF s.pat, exprE s.value], a9, c_9, rfl, by simp, HW9.out, EK, K9.out⟩
              · have EK : Hid (kindS s = firstE [exprE s.target, 8, wrongF s.pat, exprE s.value]) := by have hkd := HKD.out; unfold Hid; unfold kindS; rw [if_neg (by omega), if_neg (by omega), if_neg (by omega), if_neg (by omega), if_pos hkd]; rw [if_neg ht]
                have hb : decide (isTarget s.target) = false := decide_eq_false ht
                rw [hb]
                clear hb ht
                go_wp2_with (at_builtin; go_loud (refine wpList_err (w0 := w2) rfl _ _ rfl (.slice a4 1 c_4) 1 [.int .i64 (exprE s.target)] rfl w2.heap.size (HW5.out.alloc _) [8] w5.heap.size rfl (heap_alloc_new _ _) (by simp) (by have := K5.out.size; simp; omega) (K5.out.alloc _) (Nat.le_refl _) ?_); intro a6 c_6 w6 hW_ hK_ _; have HW6 : Hid (Win w6 w2.heap.size 22 1 (.slice a6 2 c_6) 2 [.int .i64 (exprE s.target), .int .i64 (8)]) := hW_; have K6 := Lib.hid hK_; clear hW_ hK_; clear c0 c1 c2 c3 c4 c5 c6 c7 c8 c9 c10 c11 c12 c13 c14 c15 c16 c17 c18 c19 c20 c21 c22 c23; obtain ⟨c0, c1, c2, c3, c4, c5, c6, c7, c8, c9, c10, c11, c12, c13, c14, c15, c16, c17, c18, c19, c20, c21, c22, c23⟩ := (HB2.out.kept K6.out (fun h => h)).cells)
                refine (Wrong_any s.pat _ _ ((PVpat.out.keepN K6.out SS.out).all (SS.out.mono K6.out.size)) (by have := HZ.out.pat.t; omega)).mono ?_
                rintro e w7 ⟨rfl, k_⟩
                have K7 := Lib.hid (K6.out.trans k_)
                have HW7 := Lib.hid (HW6.out.kept k_ (fun _ _ h => h))
                clear k_
                clear c0 c1 c2 c3 c4 c5 c6 c7 c8 c9 c10 c11 c12 c13 c14 c15 c16 c17 c18 c19 c20 c21 c22 c23; obtain ⟨c0, c1, c2, c3, c4, c5, c6, c7, c8, c9, c10, c11, c12, c13, c14, c15, c16, c17, c18, c19, c20, c21, c22, c23⟩ := (HB2.out.kept K7.out (fun h => h)).cells
                go_wp2_with (at_builtin; go_loud (refine wpList_err (w0 := w2) rfl _ _ rfl (.slice a6 2 c_6) 2 [.int .i64 (exprE s.target), .int .i64 (8)] rfl w2.heap.size (HW7.out.alloc _) [wrongF s.pat] w7.heap.size rfl (heap_alloc_new _ _) (by simp) (by have := K7.out.size; simp; omega) (K7.out.alloc _) (Nat.le_refl _) ?_); intro a8 c_8 w8 hW_ hK_ _; have HW8 : Hid (Win w8 w2.heap.size 22 1 (.slice a8 3 c_8) 3 [.int .i64 (exprE s.target), .int .i64 (8), .int .i64 (wrongF s.pat)]) := hW_; have K8 := Lib.hid hK_; clear hW_ hK_; clear c0 c1 c2 c3 c4 c5 c6 c7 c8 c9 c10 c11 c12 c13 c14 c15 c16 c17 c18 c19 c20 c21 c22 c23; obtain ⟨c0, c1, c2, c3, c4, c5, c6, c7, c8, c9, c10, c11, c12, c13, c14, c15, c16, c17, c18, c19, c20, c21, c22, c23⟩ := (HB2.out.kept K8.out (fun h => h)).cells)
                refine (Expr_any s.value _ S _ (PVvalue.out.keepN K8.out SS.out) (SS.out.mono K8.out.size) (by have := HZ.out.value.t; omega)).mono ?_
                rintro e w9 ⟨rfl, k_⟩
                have K9 := Lib.hid (K8.out.trans k_)
                have HW9 := Lib.hid (HW8.out.kept k_ (fun _ _ h => h))
                clear k_
                clear c0 c1 c2 c3 c4 c5 c6 c7 c8 c9 c10 c11 c12 c13 c14 c15 c16 c17 c18 c19 c20 c21 c22 c23; obtain ⟨c0, c1, c2, c3, c4, c5, c6, c7, c8, c9, c10, c11, c12, c13, c14, c15, c16, c17, c18, c19, c20, c21, c22, c23⟩ := (HB2.out.kept K9.out (fun h => h)).cells
                go_wp2_with (at_builtin; go_loud (refine wpList_err (w0 := w2) rfl _ _ rfl (.slice a8 3 c_8) 3 [.int .i64 (exprE s.target), .int .i64 (8), .int .i64 (wrongF s.pat)] rfl w2.heap.size (HW9.out.alloc _) [exprE s.value] w9.heap.size rfl (heap_alloc_new _ _) (by simp) (by have := K9.out.size; simp; omega) (K9.out.alloc _) (Nat.le_refl _) ?_); intro a10 c_10 w10 hW_ hK_ _; have HW10 : Hid (Win w10 w2.heap.size 22 1 (.slice a10 4 c_10) 4 [.int .i64 (exprE s.target), .int .i64 (8), .int .i64 (wrongF s.pat), .int .i64 (exprE s.value)]) := hW_; have K10 := Lib.hid hK_; clear hW_ hK_; clear c0 c1 c2 c3 c4 c5 c6 c7 c8 c9 c10 c11 c12 c13 c14 c15 c16 c17 c18 c19 c20 c21 c22 c23; obtain ⟨c0, c1, c2, c3, c4, c5, c6, c7, c8, c9, c10, c11, c12, c13, c14, c15, c16, c17, c18, c19, c20, c21, c22, c23⟩ := (HB2.out.kept K10.out (fun h => h)).cells)
                go_meet
                exact ⟨[exprE s.target, 8, wrongF s.pat, exprE s.value], a10, c_10, rfl, by simp, HW10.out, EK, K10.out⟩
            have n5 := hkd; clear hkd
            by_cases hkd : s.kind = 6
            · have z1 : (s.kind == 1) = false := by rw [hkd]; rfl
              have z2 : (s.kind == 2) = false := by rw [hkd]; rfl
              have z4 : (s.kind == 4) = false := by rw [hkd]; rfl
              have z3 : (s.kind == 3) = false := by rw [hkd]; rfl
              have z5 : (s.kind == 5) = false := by rw [hkd]; rfl
              have z6 : (s.kind == 6) = true := by rw [hkd]; rfl
              have EK : Hid (kindS s = firstE [namedE [s.name], wrongF s.pat]) := by unfold Hid; unfold kindS; rw [if_neg (by omega), if_neg (by omega), if_neg (by omega), if_neg (by omega), if_neg (by omega), if_pos hkd]
              clear hkd
              go_upto_region 26 with fail
              obtain ⟨Sp, hSp⟩ : ∃ Sp : Nat → Value → World → Prop, Sp = (fun i v wx => match i with
                | 0 => v = .slice none 0 0
                | 1 => v = .pointer (some ⟨w.heap.size, 17, none⟩)
                | 2 => v = .string s.name
                | 3 => ∃ g, v = .slice (some ⟨g, 0, none⟩) 1 1 ∧ g < wx.heap.size ∧ wx.heap[g]? = some (.cells #[.string s.name] 9 (0, 0))
                | 4 => v = .int .i64 (namedE [s.name])
                | 5 => v = .pointer (some ⟨w.heap.size, 12, none⟩)
                | 6 => v = .agg #[.int .i64 s.pat.kind, .string s.pat.text, .int .i64 s.pat.n, .string s.pat.name, .slice a.pa s.pat.kids.length a.pc]
                | 7 => v = .int .i64 (wrongF s.pat)
                | 8 => ∃ g, v = .slice (some ⟨g, 0, none⟩) 2 2 ∧ g < wx.heap.size ∧ wx.heap[g]? = some (.cells #[.int .i64 (namedE [s.name]), .int .i64 (wrongF s.pat)] 22 (0, 0))
                | 9 => ∃ a' c', v = .slice a' 2 c' ∧ Win wx w2.heap.size 22 1 (.slice a' 2 c') 2 [.int .i64 (namedE [s.name]), .int .i64 (wrongF s.pat)]
                | _ => ∃ a' c', v = .slice a' 2 c' ∧ Win wx w2.heap.size 22 1 (.slice a' 2 c') 2 [.int .i64 (namedE [s.name]), .int .i64 (wrongF s.pat)]) := ⟨_, rfl⟩
              refine wp_specs2 Sp [99, 100, 101, 102, 103, 104, 105, 106, 107, 108, 5] (by kernel_rfl) (by kernel_rfl) (by kernel_rfl) (fun i v w w' h hk => by
                  subst hSp
                  rcases i with _ | _ | _ | _ | _ | _ | _ | _ | _ | _ | _ | i
                  all_goals (first
                    | exact h
                    | (obtain ⟨g, h1, h2, h3⟩ := h; exact ⟨g, h1, Nat.lt_of_lt_of_le h2 hk.size, by rw [hk.block g h2 (fun h => h)]; exact h3⟩)
                    | (obtain ⟨a, c, h1, h2⟩ := h; exact ⟨a, c, h1, h2.kept hk (fun _ _ h => h)⟩))) ?_ ?_
              · intro i o hi l x wy hI hlf haft
                have e1 : x.eval (.tmp 1) = .pointer (some ⟨w.heap.size, 0, none⟩) := hI.keep 1 _ rfl (by kernel_rfl)
                have hO2 := HO2.out
                have B3 := HB2.out.kept hI.kept (fun h => h)
                clear c0 c1 c2 c3 c4 c5 c6 c7 c8 c9 c10 c11 c12 c13 c14 c15 c16 c17 c18 c19 c20 c21 c22 c23
                obtain ⟨c0, c1, c2, c3, c4, c5, c6, c7, c8, c9, c10, c11, c12, c13, c14, c15, c16, c17, c18, c19, c20, c21, c22, c23⟩ := B3.cells
                rcases i with _ | _ | _ | _ | _ | _ | _ | _ | _ | _ | _ | i
                all_goals (simp only [List.getElem?_toArray, List.getElem?_cons_zero, List.getElem?_cons_succ, List.getElem?_nil, Option.some.injEq, reduceCtorEq] at hi)
                all_goals subst hi
                · have e5 : x.eval (.tmp 5) = .slice none 0 0 := hI.late hlf 10 5 rfl rfl rfl _ rfl
                  refine op_val (v := .slice none 0 0) ?_ (by subst hSp; exact rfl)
                  simp only [execOp, resolve, invoke, List.map_toArray, List.map_cons, List.map_nil, e5]; go_simp
                · refine op_val (v := .pointer (some ⟨w.heap.size, 17, none⟩)) ?_ (by subst hSp; exact rfl)
                  simp only [execOp, resolve, invoke, List.map_toArray, List.map_cons, List.map_nil, e1]; go_simp
                · have d100 : x.eval (.tmp 100) = .pointer (some ⟨w.heap.size, 17, none⟩) := by have h_ := hI.dep haft 1 100 rfl rfl rfl; rw [hSp] at h_; exact h_
                  refine op_val (v := .string s.name) ?_ (by subst hSp; exact rfl)
                  simp only [execOp, resolve, invoke, List.map_toArray, List.map_cons, List.map_nil, d100]; go_simp
                · have d101 : x.eval (.tmp 101) = .string s.name := by have h_ := hI.dep haft 2 101 rfl rfl rfl; rw [hSp] at h_; exact h_
                  refine op_new (v := .slice (some ⟨wy.heap.size, 0, none⟩) 1 1) (w' := wy.alloc (.cells #[.string s.name] 9)) ?_ ((Kept.refl _ _).alloc _) (by subst hSp; exact ⟨_, rfl, by simp, heap_alloc_new _ _⟩)
                  simp only [execOp, resolve, invoke, List.map_toArray, List.map_cons, List.map_nil, d101]; go_simp
                · have d102 : ∃ g, x.eval (.tmp 102) = .slice (some ⟨g, 0, none⟩) 1 1 ∧ g < wy.heap.size ∧ wy.heap[g]? = some (.cells #[.string s.name] 9 (0, 0)) := by have h_ := hI.dep haft 3 102 rfl rfl rfl; rw [hSp] at h_; exact h_
                  obtain ⟨g, hv, _, hg⟩ := d102
                  refine op_call (f := 55) (args := #[.slice (some ⟨g, 0, none⟩) 1 1]) ?_ ?_
                  · simp only [execOp, resolve, invoke, List.map_toArray, List.map_cons, List.map_nil, hv]; go_simp
                  · exact (named_list [s.name] _ 1 (· = g) _ (strs_row hg rfl) ⟨by simp, by intro y hy; simp only [List.mem_singleton] at hy; subst hy; exact HZ.out.name⟩).mono fun e w' h => ⟨_, h.1, by subst hSp; exact rfl, by rw [h.2]; exact Kept.refl _ _⟩
                · refine op_val (v := .pointer (some ⟨w.heap.size, 12, none⟩)) ?_ (by subst hSp; exact rfl)
                  simp only [execOp, resolve, invoke, List.map_toArray, List.map_cons, List.map_nil, e1]; go_simp
                · have d104 : x.eval (.tmp 104) = .pointer (some ⟨w.heap.size, 12, none⟩) := by have h_ := hI.dep haft 5 104 rfl rfl rfl; rw [hSp] at h_; exact h_
                  refine op_val (v := .agg #[.int .i64 s.pat.kind, .string s.pat.text, .int .i64 s.pat.n, .string s.pat.name, .slice a.pa s.pat.kids.length a.pc]) ?_ (by subst hSp; exact rfl)
                  simp only [execOp, resolve, invoke, List.map_toArray, List.map_cons, List.map_nil, d104]; go_simp
                · have d105 : x.eval (.tmp 105) = .agg #[.int .i64 s.pat.kind, .string s.pat.text, .int .i64 s.pat.n, .string s.pat.name, .slice a.pa s.pat.kids.length a.pc] := by have h_ := hI.dep haft 6 105 rfl rfl rfl; rw [hSp] at h_; exact h_
                  refine op_call (f := 53) (args := #[.agg #[.int .i64 s.pat.kind, .string s.pat.text, .int .i64 s.pat.n, .string s.pat.name, .slice a.pa s.pat.kids.length a.pc]]) ?_ ?_
                  · simp only [execOp, resolve, invoke, List.map_toArray, List.map_cons, List.map_nil, d105]; go_simp
                  · exact (Wrong_any s.pat _ _ ((PVpat.out.keepN hI.kept SS.out).all (SS.out.mono hI.kept.size)) (by have := HZ.out.pat.t; omega)).mono fun e w' h => ⟨_, h.1, by subst hSp; exact rfl, h.2⟩
                · have d103 : x.eval (.tmp 103) = .int .i64 (namedE [s.name]) := by have h_ := hI.dep haft 4 103 rfl rfl rfl; rw [hSp] at h_; exact h_
                  have d106 : x.eval (.tmp 106) = .int .i64 (wrongF s.pat) := by have h_ := hI.dep haft 7 106 rfl rfl rfl; rw [hSp] at h_; exact h_
                  refine op_new (v := .slice (some ⟨wy.heap.size, 0, none⟩) 2 2) (w' := wy.alloc (.cells #[.int .i64 (namedE [s.name]), .int .i64 (wrongF s.pat)] 22)) ?_ ((Kept.refl _ _).alloc _) (by subst hSp; exact ⟨_, rfl, by simp, heap_alloc_new _ _⟩)
                  simp only [execOp, resolve, invoke, List.map_toArray, List.map_cons, List.map_nil, d103, d106]; go_simp
                · have d99 : x.eval (.tmp 99) = .slice none 0 0 := by have h_ := hI.dep haft 0 99 rfl rfl rfl; rw [hSp] at h_; exact h_
                  have d107 : ∃ g, x.eval (.tmp 107) = .slice (some ⟨g, 0, none⟩) 2 2 ∧ g < wy.heap.size ∧ wy.heap[g]? = some (.cells #[.int .i64 (namedE [s.name]), .int .i64 (wrongF s.pat)] 22 (0, 0)) := by have h_ := hI.dep haft 8 107 rfl rfl rfl; rw [hSp] at h_; exact h_
                  obtain ⟨g, hv, _, hg⟩ := d107
                  exact op_err _ _ rfl d99 [namedE [s.name], wrongF s.pat] g hv hg (by simp) w2.heap.size hI.kept.size fun a' c' w' hW => by subst hSp; exact ⟨a', c', rfl, hW⟩
                · have d108 : ∃ a' c', x.eval (.tmp 108) = .slice a' 2 c' ∧ Win wy w2.heap.size 22 1 (.slice a' 2 c') 2 [.int .i64 (namedE [s.name]), .int .i64 (wrongF s.pat)] := by have h_ := hI.dep haft 9 108 rfl rfl rfl; rw [hSp] at h_; exact h_
                  obtain ⟨a', c', hv, hW⟩ := d108
                  refine op_val (v := .slice a' 2 c') ?_ (by subst hSp; exact ⟨_, _, rfl, hW⟩)
                  simp only [execOp, resolve, invoke, List.map_toArray, List.map_cons, List.map_nil, hv]; go_simp
              · intro f wy hK hS
                have h5_ := hS 10 _ 5 rfl rfl
                rw [hSp] at h5_
                obtain ⟨a4, c_4, e5, HW_⟩ := h5_
                have HW4 : Hid (Win wy w2.heap.size 22 1 (.slice a4 2 c_4) 2 [.int .i64 (namedE [s.name]), .int .i64 (wrongF s.pat)]) := HW_
                have K4 := Lib.hid hK
                clear hK hS HW_
                clear c0 c1 c2 c3 c4 c5 c6 c7 c8 c9 c10 c11 c12 c13 c14 c15 c16 c17 c18 c19 c20 c21 c22 c23; obtain ⟨c0, c1, c2, c3, c4, c5, c6, c7, c8, c9, c10, c11, c12, c13, c14, c15, c16, c17, c18, c19, c20, c21, c22, c23⟩ := (HB2.out.kept K4.out (fun h => h)).cells
                simp only [setAll, List.foldl_cons, List.foldl_nil, List.setIfInBounds_toArray, List.set_cons_zero, List.set_cons_succ, e5]
                clear e5
                go_wp2_with fail
                go_meet
                exact ⟨[namedE [s.name], wrongF s.pat], a4, c_4, rfl, by simp, HW4.out, EK, K4.out⟩
            have n6 := hkd; clear hkd
            by_cases hkd : s.kind = 7
            · have z1 : (s.kind == 1) = false := by rw [hkd]; rfl
              have z2 : (s.kind == 2) = false := by rw [hkd]; rfl
              have z4 : (s.kind == 4) = false := by rw [hkd]; rfl
              have z3 : (s.kind == 3) = false := by rw [hkd]; rfl
              have z5 : (s.kind == 5) = false := by rw [hkd]; rfl
              have z6 : (s.kind == 6) = false := by rw [hkd]; rfl
              have z7 : (s.kind == 7) = true := by rw [hkd]; rfl
              have EQ : Hid (kindS s = firstE [namedE [s.name], namedE s.params, namedE s.locals, namedE [s.entry], if 8 < s.params.length ∨ 8 < s.locals.length then 5 else 0]) := by unfold Hid; unfold kindS; rw [if_neg (by omega), if_neg (by omega), if_neg (by omega), if_neg (by omega), if_neg (by omega), if_neg (by omega), if_pos hkd]
              clear hkd
              go_upto_region 28 with fail
              obtain ⟨Sp, hSp⟩ : ∃ Sp : Nat → Value → World → Prop, Sp = (fun i v wx => match i with
                | 0 => v = .slice none 0 0
                | 1 => v = .pointer (some ⟨w.heap.size, 17, none⟩)
                | 2 => v = .string s.name
                | 3 => ∃ g, v = .slice (some ⟨g, 0, none⟩) 1 1 ∧ g < wx.heap.size ∧ wx.heap[g]? = some (.cells #[.string s.name] 9 (0, 0))
                | 4 => v = .int .i64 (namedE [s.name])
                | 5 => v = .pointer (some ⟨w.heap.size, 19, none⟩)
                | 6 => v = .slice a.ma s.params.length a.mc
                | 7 => v = .int .i64 (namedE s.params)
                | 8 => v = .pointer (some ⟨w.heap.size, 20, none⟩)
                | 9 => v = .slice a.la s.locals.length a.lc
                | 10 => v = .int .i64 (namedE s.locals)
                | 11 => v = .pointer (some ⟨w.heap.size, 18, none⟩)
                | 12 => v = .string s.entry
                | 13 => ∃ g, v = .slice (some ⟨g, 0, none⟩) 1 1 ∧ g < wx.heap.size ∧ wx.heap[g]? = some (.cells #[.string s.entry] 9 (0, 0))
                | 14 => v = .int .i64 (namedE [s.entry])
                | 15 => ∃ g, v = .slice (some ⟨g, 0, none⟩) 4 4 ∧ g < wx.heap.size ∧ wx.heap[g]? = some (.cells #[.int .i64 (namedE [s.name]), .int .i64 (namedE s.params), .int .i64 (namedE s.locals), .int .i64 (namedE [s.entry])] 22 (0, 0))
                | 16 => ∃ a' c', v = .slice a' 4 c' ∧ Win wx w2.heap.size 22 1 (.slice a' 4 c') 4 [.int .i64 (namedE [s.name]), .int .i64 (namedE s.params), .int .i64 (namedE s.locals), .int .i64 (namedE [s.entry])]
                | _ => ∃ a' c', v = .slice a' 4 c' ∧ Win wx w2.heap.size 22 1 (.slice a' 4 c') 4 [.int .i64 (namedE [s.name]), .int .i64 (namedE s.params), .int .i64 (namedE s.locals), .int .i64 (namedE [s.entry])]) := ⟨_, rfl⟩
              refine wp_specs2 Sp [111, 112, 113, 114, 115, 116, 117, 118, 119, 120, 121, 122, 123, 124, 125, 126, 127, 5] (by kernel_rfl) (by kernel_rfl) (by kernel_rfl) (fun i v w w' h hk => by
                  subst hSp
                  rcases i with _ | _ | _ | _ | _ | _ | _ | _ | _ | _ | _ | _ | _ | _ | _ | _ | _ | _ | i
                  all_goals (first
                    | exact h
                    | (obtain ⟨g, h1, h2, h3⟩ := h; exact ⟨g, h1, Nat.lt_of_lt_of_le h2 hk.size, by rw [hk.block g h2 (fun h => h)]; exact h3⟩)
                    | (obtain ⟨a, c, h1, h2⟩ := h; exact ⟨a, c, h1, h2.kept hk (fun _ _ h => h)⟩))) ?_ ?_
              · intro i o hi l x wy hI hlf haft
                have e1 : x.eval (.tmp 1) = .pointer (some ⟨w.heap.size, 0, none⟩) := hI.keep 1 _ rfl (by kernel_rfl)
                have hO2 := HO2.out
                have B3 := HB2.out.kept hI.kept (fun h => h)
                clear c0 c1 c2 c3 c4 c5 c6 c7 c8 c9 c10 c11 c12 c13 c14 c15 c16 c17 c18 c19 c20 c21 c22 c23
                obtain ⟨c0, c1, c2, c3, c4, c5, c6, c7, c8, c9, c10, c11, c12, c13, c14, c15, c16, c17, c18, c19, c20, c21, c22, c23⟩ := B3.cells
                rcases i with _ | _ | _ | _ | _ | _ | _ | _ | _ | _ | _ | _ | _ | _ | _ | _ | _ | _ | i
                all_goals (simp only [List.getElem?_toArray, List.getElem?_cons_zero, List.getElem?_cons_succ, List.getElem?_nil, Option.some.injEq, reduceCtorEq] at hi)
                all_goals subst hi
                · have e5 : x.eval (.tmp 5) = .slice none 0 0 := hI.late hlf 17 5 rfl rfl rfl _ rfl
                  refine op_val (v := .slice none 0 0) ?_ (by subst hSp; exact rfl)
                  simp only [execOp, resolve, invoke, List.map_toArray, List.map_cons, List.map_nil, e5]; go_simp
                · refine op_val (v := .pointer (some ⟨w.heap.size, 17, none⟩)) ?_ (by subst hSp; exact rfl)
                  simp only [execOp, resolve, invoke, List.map_toArray, List.map_cons, List.map_nil, e1]; go_simp
                · have d112 : x.eval (.tmp 112) = .pointer (some ⟨w.heap.size, 17, none⟩) := by have h_ := hI.dep haft 1 112 rfl rfl rfl; rw [hSp] at h_; exact h_
                  refine op_val (v := .string s.name) ?_ (by subst hSp; exact rfl)
                  simp only [execOp, resolve, invoke, List.map_toArray, List.map_cons, List.map_nil, d112]; go_simp
                · have d113 : x.eval (.tmp 113) = .string s.name := by have h_ := hI.dep haft 2 113 rfl rfl rfl; rw [hSp] at h_; exact h_
                  refine op_new (v := .slice (some ⟨wy.heap.size, 0, none⟩) 1 1) (w' := wy.alloc (.cells #[.string s.name] 9)) ?_ ((Kept.refl _ _).alloc _) (by subst hSp; exact ⟨_, rfl, by simp, heap_alloc_new _ _⟩)
                  simp only [execOp, resolve, invoke, List.map_toArray, List.map_cons, List.map_nil, d113]; go_simp
                · have d114 : ∃ g, x.eval (.tmp 114) = .slice (some ⟨g, 0, none⟩) 1 1 ∧ g < wy.heap.size ∧ wy.heap[g]? = some (.cells #[.string s.name] 9 (0, 0)) := by have h_ := hI.dep haft 3 114 rfl rfl rfl; rw [hSp] at h_; exact h_
                  obtain ⟨g, hv, _, hg⟩ := d114
                  refine op_call (f := 55) (args := #[.slice (some ⟨g, 0, none⟩) 1 1]) ?_ ?_
                  · simp only [execOp, resolve, invoke, List.map_toArray, List.map_cons, List.map_nil, hv]; go_simp
                  · exact (named_list [s.name] _ 1 (· = g) _ (strs_row hg rfl) ⟨by simp, by intro y hy; simp only [List.mem_singleton] at hy; subst hy; exact HZ.out.name⟩).mono fun e w' h => ⟨_, h.1, by subst hSp; exact rfl, by rw [h.2]; exact Kept.refl _ _⟩
                · refine op_val (v := .pointer (some ⟨w.heap.size, 19, none⟩)) ?_ (by subst hSp; exact rfl)
                  simp only [execOp, resolve, invoke, List.map_toArray, List.map_cons, List.map_nil, e1]; go_simp
                · have d116 : x.eval (.tmp 116) = .pointer (some ⟨w.heap.size, 19, none⟩) := by have h_ := hI.dep haft 5 116 rfl rfl rfl; rw [hSp] at h_; exact h_
                  refine op_val (v := .slice a.ma s.params.length a.mc) ?_ (by subst hSp; exact rfl)
                  simp only [execOp, resolve, invoke, List.map_toArray, List.map_cons, List.map_nil, d116]; go_simp
                · have d117 : x.eval (.tmp 117) = .slice a.ma s.params.length a.mc := by have h_ := hI.dep haft 6 117 rfl rfl rfl; rw [hSp] at h_; exact h_
                  refine op_call (f := 55) (args := #[.slice a.ma s.params.length a.mc]) ?_ ?_
                  · simp only [execOp, resolve, invoke, List.map_toArray, List.map_cons, List.map_nil, d117]; go_simp
                  · exact (named_list s.params _ _ S _ (hO2.params.to hI.kept SS.out (fun _ h => h)) HZ.out.params).mono fun e w' h => ⟨_, h.1, by subst hSp; exact rfl, by rw [h.2]; exact Kept.refl _ _⟩
                · refine op_val (v := .pointer (some ⟨w.heap.size, 20, none⟩)) ?_ (by subst hSp; exact rfl)
                  simp only [execOp, resolve, invoke, List.map_toArray, List.map_cons, List.map_nil, e1]; go_simp
                · have d119 : x.eval (.tmp 119) = .pointer (some ⟨w.heap.size, 20, none⟩) := by have h_ := hI.dep haft 8 119 rfl rfl rfl; rw [hSp] at h_; exact h_
                  refine op_val (v := .slice a.la s.locals.length a.lc) ?_ (by subst hSp; exact rfl)
                  simp only [execOp, resolve, invoke, List.map_toArray, List.map_cons, List.map_nil, d119]; go_simp
                · have d120 : x.eval (.tmp 120) = .slice a.la s.locals.length a.lc := by have h_ := hI.dep haft 9 120 rfl rfl rfl; rw [hSp] at h_; exact h_
                  refine op_call (f := 55) (args := #[.slice a.la s.locals.length a.lc]) ?_ ?_
                  · simp only [execOp, resolve, invoke, List.map_toArray, List.map_cons, List.map_nil, d120]; go_simp
                  · exact (named_list s.locals _ _ S _ (hO2.locals.to hI.kept SS.out (fun _ h => h)) HZ.out.locals).mono fun e w' h => ⟨_, h.1, by subst hSp; exact rfl, by rw [h.2]; exact Kept.refl _ _⟩
                · refine op_val (v := .pointer (some ⟨w.heap.size, 18, none⟩)) ?_ (by subst hSp; exact rfl)
                  simp only [execOp, resolve, invoke, List.map_toArray, List.map_cons, List.map_nil, e1]; go_simp
                · have d122 : x.eval (.tmp 122) = .pointer (some ⟨w.heap.size, 18, none⟩) := by have h_ := hI.dep haft 11 122 rfl rfl rfl; rw [hSp] at h_; exact h_
                  refine op_val (v := .string s.entry) ?_ (by subst hSp; exact rfl)
                  simp only [execOp, resolve, invoke, List.map_toArray, List.map_cons, List.map_nil, d122]; go_simp
                · have d123 : x.eval (.tmp 123) = .string s.entry := by have h_ := hI.dep haft 12 123 rfl rfl rfl; rw [hSp] at h_; exact h_
                  refine op_new (v := .slice (some ⟨wy.heap.size, 0, none⟩) 1 1) (w' := wy.alloc (.cells #[.string s.entry] 9)) ?_ ((Kept.refl _ _).alloc _) (by subst hSp; exact ⟨_, rfl, by simp, heap_alloc_new _ _⟩)
                  simp only [execOp, resolve, invoke, List.map_toArray, List.map_cons, List.map_nil, d123]; go_simp
                · have d124 : ∃ g, x.eval (.tmp 124) = .slice (some ⟨g, 0, none⟩) 1 1 ∧ g < wy.heap.size ∧ wy.heap[g]? = some (.cells #[.string s.entry] 9 (0, 0)) := by have h_ := hI.dep haft 13 124 rfl rfl rfl; rw [hSp] at h_; exact h_
                  obtain ⟨g, hv, _, hg⟩ := d124
                  refine op_call (f := 55) (args := #[.slice (some ⟨g, 0, none⟩) 1 1]) ?_ ?_
                  · simp only [execOp, resolve, invoke, List.map_toArray, List.map_cons, List.map_nil, hv]; go_simp
                  · exact (named_list [s.entry] _ 1 (· = g) _ (strs_row hg rfl) ⟨by simp, by intro y hy; simp only [List.mem_singleton] at hy; subst hy; exact HZ.out.entry⟩).mono fun e w' h => ⟨_, h.1, by subst hSp; exact rfl, by rw [h.2]; exact Kept.refl _ _⟩
                · have d115 : x.eval (.tmp 115) = .int .i64 (namedE [s.name]) := by have h_ := hI.dep haft 4 115 rfl rfl rfl; rw [hSp] at h_; exact h_
                  have d118 : x.eval (.tmp 118) = .int .i64 (namedE s.params) := by have h_ := hI.dep haft 7 118 rfl rfl rfl; rw [hSp] at h_; exact h_
                  have d121 : x.eval (.tmp 121) = .int .i64 (namedE s.locals) := by have h_ := hI.dep haft 10 121 rfl rfl rfl; rw [hSp] at h_; exact h_
                  have d125 : x.eval (.tmp 125) = .int .i64 (namedE [s.entry]) := by have h_ := hI.dep haft 14 125 rfl rfl rfl; rw [hSp] at h_; exact h_
                  refine op_new (v := .slice (some ⟨wy.heap.size, 0, none⟩) 4 4) (w' := wy.alloc (.cells #[.int .i64 (namedE [s.name]), .int .i64 (namedE s.params), .int .i64 (namedE s.locals), .int .i64 (namedE [s.entry])] 22)) ?_ ((Kept.refl _ _).alloc _) (by subst hSp; exact ⟨_, rfl, by simp, heap_alloc_new _ _⟩)
                  simp only [execOp, resolve, invoke, List.map_toArray, List.map_cons, List.map_nil, d115, d118, d121, d125]; go_simp
                · have d111 : x.eval (.tmp 111) = .slice none 0 0 := by have h_ := hI.dep haft 0 111 rfl rfl rfl; rw [hSp] at h_; exact h_
                  have d126 : ∃ g, x.eval (.tmp 126) = .slice (some ⟨g, 0, none⟩) 4 4 ∧ g < wy.heap.size ∧ wy.heap[g]? = some (.cells #[.int .i64 (namedE [s.name]), .int .i64 (namedE s.params), .int .i64 (namedE s.locals), .int .i64 (namedE [s.entry])] 22 (0, 0)) := by have h_ := hI.dep haft 15 126 rfl rfl rfl; rw [hSp] at h_; exact h_
                  obtain ⟨g, hv, _, hg⟩ := d126
                  exact op_err _ _ rfl d111 [namedE [s.name], namedE s.params, namedE s.locals, namedE [s.entry]] g hv hg (by simp) w2.heap.size hI.kept.size fun a' c' w' hW => by subst hSp; exact ⟨a', c', rfl, hW⟩
                · have d127 : ∃ a' c', x.eval (.tmp 127) = .slice a' 4 c' ∧ Win wy w2.heap.size 22 1 (.slice a' 4 c') 4 [.int .i64 (namedE [s.name]), .int .i64 (namedE s.params), .int .i64 (namedE s.locals), .int .i64 (namedE [s.entry])] := by have h_ := hI.dep haft 16 127 rfl rfl rfl; rw [hSp] at h_; exact h_
                  obtain ⟨a', c', hv, hW⟩ := d127
                  refine op_val (v := .slice a' 4 c') ?_ (by subst hSp; exact ⟨_, _, rfl, hW⟩)
                  simp only [execOp, resolve, invoke, List.map_toArray, List.map_cons, List.map_nil, hv]; go_simp
              · intro f wy hK hS
                have h5_ := hS 17 _ 5 rfl rfl
                rw [hSp] at h5_
                obtain ⟨a4, c_4, e5, HW_⟩ := h5_
                have HW4 : Hid (Win wy w2.heap.size 22 1 (.slice a4 4 c_4) 4 [.int .i64 (namedE [s.name]), .int .i64 (namedE s.params), .int .i64 (namedE s.locals), .int .i64 (namedE [s.entry])]) := HW_
                have K4 := Lib.hid hK
                clear hK hS HW_
                clear c0 c1 c2 c3 c4 c5 c6 c7 c8 c9 c10 c11 c12 c13 c14 c15 c16 c17 c18 c19 c20 c21 c22 c23; obtain ⟨c0, c1, c2, c3, c4, c5, c6, c7, c8, c9, c10, c11, c12, c13, c14, c15, c16, c17, c18, c19, c20, c21, c22, c23⟩ := (HB2.out.kept K4.out (fun h => h)).cells
                simp only [setAll, List.foldl_cons, List.foldl_nil, List.setIfInBounds_toArray, List.set_cons_zero, List.set_cons_succ, e5]
                clear e5
                rcases (show (8 < s.params.length ∨ 8 < s.locals.length) ∨ ¬ (8 < s.params.length ∨ 8 < s.locals.length) from Classical.em _) with hm | hm
                · have EK : Hid (kindS s = firstE [namedE [s.name], namedE s.params, namedE s.locals, namedE [s.entry], 5]) := by unfold Hid; rw [EQ.out, if_pos hm]
                  rcases (show 8 < s.params.length ∨ (¬ 8 < s.params.length ∧ 8 < s.locals.length) by omega) with hp | ⟨hp, hq⟩
                  · have x1 : decide ((8 : Int) < (s.params.length : Int)) = true := decide_eq_true (by omega)
                    clear hm hp
                    go_wp2_with (at_builtin; go_loud (refine wpList_err (w0 := w2) rfl _ _ rfl (.slice a4 4 c_4) 4 [.int .i64 (namedE [s.name]), .int .i64 (namedE s.params), .int .i64 (namedE s.locals), .int .i64 (namedE [s.entry])] rfl w2.heap.size (HW4.out.alloc _) [5] wy.heap.size rfl (heap_alloc_new _ _) (by simp) (by have := K4.out.size; simp; omega) (K4.out.alloc _) (Nat.le_refl _) ?_); intro a5 c_5 w5 hW_ hK_ _; have HW5 : Hid (Win w5 w2.heap.size 22 1 (.slice a5 5 c_5) 5 [.int .i64 (namedE [s.name]), .int .i64 (namedE s.params), .int .i64 (namedE s.locals), .int .i64 (namedE [s.entry]), .int .i64 (5)]) := hW_; have K5 := Lib.hid hK_; clear hW_ hK_; clear c0 c1 c2 c3 c4 c5 c6 c7 c8 c9 c10 c11 c12 c13 c14 c15 c16 c17 c18 c19 c20 c21 c22 c23; obtain ⟨c0, c1, c2, c3, c4, c5, c6, c7, c8, c9, c10, c11, c12, c13, c14, c15, c16, c17, c18, c19, c20, c21, c22, c23⟩ := (HB2.out.kept K5.out (fun h => h)).cells)
                    go_meet
                    exact ⟨[namedE [s.name], namedE s.params, namedE s.locals, namedE [s.entry], 5], a5, c_5, rfl, by simp, HW5.out, EK, K5.out⟩
                  · have x1 : decide ((8 : Int) < (s.params.length : Int)) = false := decide_eq_false (by omega)
                    have x2 : decide ((8 : Int) < (s.locals.length : Int)) = true := decide_eq_true (by omega)
                    clear hm hp hq
                    go_wp2_with (at_builtin; go_loud (refine wpList_err (w0 := w2) rfl _ _ rfl (.slice a4 4 c_4) 4 [.int .i64 (namedE [s.name]), .int .i64 (namedE s.params), .int .i64 (namedE s.locals), .int .i64 (namedE [s.entry])] rfl w2.heap.size (HW4.out.alloc _) [5] wy.heap.size rfl (heap_alloc_new _ _) (by simp) (by have := K4.out.size; simp; omega) (K4.out.alloc _) (Nat.le_refl _) ?_); intro a5 c_5 w5 hW_ hK_ _; have HW5 : Hid (Win w5 w2.heap.size 22 1 (.slice a5 5 c_5) 5 [.int .i64 (namedE [s.name]), .int .i64 (namedE s.params), .int .i64 (namedE s.locals), .int .i64 (namedE [s.entry]), .int .i64 (5)]) := hW_; have K5 := Lib.hid hK_; clear hW_ hK_; clear c0 c1 c2 c3 c4 c5 c6 c7 c8 c9 c10 c11 c12 c13 c14 c15 c16 c17 c18 c19 c20 c21 c22 c23; obtain ⟨c0, c1, c2, c3, c4, c5, c6, c7, c8, c9, c10, c11, c12, c13, c14, c15, c16, c17, c18, c19, c20, c21, c22, c23⟩ := (HB2.out.kept K5.out (fun h => h)).cells)
                    go_meet
                    exact ⟨[namedE [s.name], namedE s.params, namedE s.locals, namedE [s.entry], 5], a5, c_5, rfl, by simp, HW5.out, EK, K5.out⟩
                · have EK : Hid (kindS s = firstE [namedE [s.name], namedE s.params, namedE s.locals, namedE [s.entry]]) := by unfold Hid; rw [EQ.out, if_neg hm]; simp [firstE]
                  have x1 : decide ((8 : Int) < (s.params.length : Int)) = false := decide_eq_false (by omega)
                  have x2 : decide ((8 : Int) < (s.locals.length : Int)) = false := decide_eq_false (by omega)
                  clear hm
                  go_wp2_with fail
                  go_meet
                  exact ⟨[namedE [s.name], namedE s.params, namedE s.locals, namedE [s.entry]], a4, c_4, rfl, by simp, HW4.out, EK, K4.out⟩
            have n7 := hkd; clear hkd
            have fin : Hid (kindS s = 1) := by unfold Hid kindS; rw [if_neg n1, if_neg n2, if_neg n4, if_neg n3, if_neg n5, if_neg n6, if_neg n7]
            have z1 : (s.kind == 1) = false := by simpa using n1
            have z2 : (s.kind == 2) = false := by simpa using n2
            have z4 : (s.kind == 4) = false := by simpa using n4
            have z3 : (s.kind == 3) = false := by simpa using n3
            have z5 : (s.kind == 5) = false := by simpa using n5
            have z6 : (s.kind == 6) = false := by simpa using n6
            have z7 : (s.kind == 7) = false := by simpa using n7
            clear n1 n2 n4 n3 n5 n6 n7
            go_wp2_with fail
            go_ret
            exact ⟨by rw [heq.out, fin.out]; try rfl, HK2.out⟩
          case rest =>
            obtain ⟨es, a3, c_3, rfl, hes, hW, EK, hK⟩ := hcut
            have K3 := Lib.hid (HK2.out.trans hK)
            have HW := Lib.hid hW
            have hq := Lib.hid (heq.out.trans EK.out)
            clear hW hK HL
            clear c0 c1 c2 c3 c4 c5 c6 c7 c8 c9 c10 c11 c12 c13 c14 c15 c16 c17 c18 c19 c20 c21 c22 c23
            go_wp2_with fail
            go_loop [143] (fun i => ∃ j : Nat, j ≤ es.length ∧ i = .int .i64 j ∧ Hid (firstE es = firstE (es.drop j))) (fun i => es.length - (intOf i).toNat)
            case atStart => exact ⟨0, Nat.zero_le _, rfl, by unfold Hid; rw [List.drop_zero]⟩
            case round =>
              obtain ⟨j, hj, rfl, hno⟩ := hrel
              by_cases hlt : j < es.length
              · rcases HW.out.cells with ⟨hv, h0⟩ | ⟨g, o, cap, hv, _, _, _, _, hc⟩
                · omega
                · simp only [Value.slice.injEq, true_and] at hv
                  obtain ⟨rfl, rfl⟩ := hv
                  obtain ⟨hcj, _⟩ := hc j (.int .i64 es[j]) (by rw [List.getElem?_map, List.getElem?_eq_getElem hlt]; rfl)
                  have hd := firstE_drop es j hlt
                  clear hc
                  by_cases hz : es[j] = 0
                  · rw [if_pos hz] at hd
                    have step := Lib.hid (hno.out.trans hd)
                    have hb : (es[j] != 0) = false := by simpa using hz
                    clear hd hz
                    go_wp2_with fail
                    go_round
                    case rel => exact ⟨j + 1, by omega, by go_num, step⟩
                    case measure => simp [intOf]; omega
                  · rw [if_neg hz] at hd
                    have fin := Lib.hid (hq.out.trans (hno.out.trans hd))
                    have hb : (es[j] != 0) = true := by simpa using hz
                    clear hd hz
                    go_wp2_with fail
                    go_ret
                    exact ⟨by rw [fin.out]; try rfl, K3.out⟩
              · obtain rfl : j = es.length := by omega
                have fin := Lib.hid (hq.out.trans (hno.out.trans (show firstE (es.drop es.length) = 0 by rw [List.drop_length, firstE])))
                go_wp2_with fail
                go_ret
                exact ⟨by rw [fin.out]; try rfl, K3.out⟩
end Go.Proofs.YtlnhcgihpclpaaaGreatDoor
