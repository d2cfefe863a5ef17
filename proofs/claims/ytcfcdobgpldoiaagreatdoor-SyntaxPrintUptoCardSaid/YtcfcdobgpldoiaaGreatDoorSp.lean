/- SyntaxPrint: the law's walk. -/
import Derived.Test.YtcfcdobgpldoiaaGreatDoorSh1
import Derived.Test.YtcfcdobgpldoiaaGreatDoorSh2
import Derived.Deep.RegionWith
namespace Go.Proofs.YtcfcdobgpldoiaaGreatDoor
set_option linter.all false
open Go.RowKit

theorem ld_st {a : StA} {s : StT} {xa : Act} {wy : World} {M : Nat} {t : Nat} {o : Oper} (e : xa.eval (.tmp t) = .pointer (some ⟨M, 0, none⟩)) (hc : ∀ i (hi : i < 24), wy.cell? ⟨M, 0 + i, none⟩ = some ((stCells a s)[i]'(by simpa [stCells] using hi)))
    (ho : o.op = .load 33 (.tmp t)) : (execOp xa.eval o).run Tryz.prog wy = .ok (.value (stVal a s)) wy := by
  unfold execOp
  rw [ho]
  simp only [e, Sem.run_bind, loadSt hc, Result.andThen_ok, Sem.run_pure]
set_option maxRecDepth 100000 in
set_option maxHeartbeats 16000000 in
theorem sp_walk (l : List StT) (al : Option Addr) (cl : Nat) (x : PatT) (ka : Option Addr) (cap : Nat) (w : World) (hl : StsX w (· < w.heap.size) al l) (hlen : l.length ≤ 1048576)
    (hx : PatV w (· < w.heap.size) (.agg #[.int .i64 x.kind, .string x.text, .int .i64 x.n, .string x.name, .slice ka x.kids.length cap]) x) (hsz : sizeT x ≤ 1048576) (hg : GlobW w) :
    Calls Tryz.prog 3 #[.slice al l.length cl, .agg #[.int .i64 x.kind, .string x.text, .int .i64 x.n, .string x.name, .slice ka x.kids.length cap]] w (BoolQ true w) := by
  obtain ⟨w1, hw1⟩ : ∃ w1, w1 = (w.alloc (.cells #[.int .i64 x.kind, .string x.text, .int .i64 x.n, .string x.name, .slice ka x.kids.length cap] 25)) := ⟨_, rfl⟩
  have F1 : Hid (Box5 w.heap.size (.int .i64 x.kind) (.string x.text) (.int .i64 x.n) (.string x.name) (.slice ka x.kids.length cap) w1) := by rw [hw1]; exact Box5.new ..
  have k1 : Kept Nix w w1 := by rw [hw1]; exact (Kept.refl Nix w).alloc _
  have XV : Hid (∀ wy, Kept Nix w wy → PatV wy (· < w.heap.size) (.agg #[.int .i64 x.kind, .string x.text, .int .i64 x.n, .string x.name, .slice ka x.kids.length cap]) x ∧ Safe (· < w.heap.size) Nix wy.heap.size) := by
    intro wy hk
    obtain ⟨x1, x2, x3, x4, x5⟩ := hx
    exact ⟨⟨x1, x2, x3, x4, x5.kept hk (Safe.lt (Nat.le_refl _))⟩, Safe.lt hk.size⟩
  have HE1 : Hid (∀ wy, Kept Nix w1 wy → Calls Tryz.prog 4 #[.agg #[.int .i64 x.kind, .string x.text, .int .i64 x.n, .string x.name, .slice ka x.kids.length cap]] wy (IntQ (exprE x) wy)) := fun wy hk => Expr_any x _ _ wy (XV.out wy (k1.trans hk)).1 (XV.out wy (k1.trans hk)).2 (by omega)
  have HE2 : Hid (∀ wy, Kept Nix w1 wy → Calls Tryz.prog 5 #[.agg #[.int .i64 x.kind, .string x.text, .int .i64 x.n, .string x.name, .slice ka x.kids.length cap]] wy (IntQ (exprE x) wy)) := fun wy hk => refExpr_any x _ _ wy (XV.out wy (k1.trans hk)).1 (XV.out wy (k1.trans hk)).2 (by omega)
  have HL := Lib.hid hl; have HG := Lib.hid hg; have K1 := Lib.hid k1; have HW1 := Lib.hid hw1
  clear hl hx hg k1 hw1 XV
  go_enter Tryz.func3, Tryz.ntmps3
  go_upto_region 1 with fail
  rw [← HW1.out]
  clear HW1
  obtain ⟨Sp, hSp⟩ : ∃ Sp : Nat → Value → World → Prop, Sp = (fun i v wx => match i with
    | 0 => v = .agg #[.int .i64 x.kind, .string x.text, .int .i64 x.n, .string x.name, .slice ka x.kids.length cap]
    | 1 => v = .int .i64 (exprE x)
    | 2 => v = .agg #[.int .i64 x.kind, .string x.text, .int .i64 x.n, .string x.name, .slice ka x.kids.length cap]
    | 3 => v = .int .i64 (exprE x)
    | _ => v = .bool false) := ⟨_, rfl⟩
  refine wp_specs2 Sp [15, 16, 17, 18, 19] (by kernel_rfl) (by kernel_rfl) (by kernel_rfl) (fun i v w w' h hk => by
      subst hSp
      rcases i with _ | _ | _ | _ | _ | i
      all_goals (first
        | exact h)) ?_ ?_
  · intro i o hi l xa wy hI hlf haft
    have e3 : xa.eval (.tmp 3) = .pointer (some ⟨w.heap.size, 0, none⟩) := hI.keep 3 _ rfl (by kernel_rfl)
    have J := hI.kept
    have FB := F1.out.kept J (fun h => h)
    obtain ⟨_, c0, c1, c2, c3, c4⟩ := FB
    rcases i with _ | _ | _ | _ | _ | i
    all_goals (simp only [List.getElem?_toArray, List.getElem?_cons_zero, List.getElem?_cons_succ, List.getElem?_nil, Option.some.injEq, reduceCtorEq] at hi)
    all_goals subst hi
    · refine op_val (v := .agg #[.int .i64 x.kind, .string x.text, .int .i64 x.n, .string x.name, .slice ka x.kids.length cap]) ?_ (by subst hSp; exact rfl)
      simp only [execOp, resolve, invoke, List.map_toArray, List.map_cons, List.map_nil, e3]; go_simp
    · have d15 : xa.eval (.tmp 15) = .agg #[.int .i64 x.kind, .string x.text, .int .i64 x.n, .string x.name, .slice ka x.kids.length cap] := by have h_ := hI.dep haft 0 15 rfl rfl rfl; rw [hSp] at h_; exact h_
      refine op_call (f := 4) (args := #[.agg #[.int .i64 x.kind, .string x.text, .int .i64 x.n, .string x.name, .slice ka x.kids.length cap]]) ?_ ?_
      · simp only [execOp, resolve, invoke, List.map_toArray, List.map_cons, List.map_nil, d15]; go_simp
      · exact (HE1.out _ J).mono fun e w' h => ⟨_, h.1, by subst hSp; exact rfl, h.2⟩
    · refine op_val (v := .agg #[.int .i64 x.kind, .string x.text, .int .i64 x.n, .string x.name, .slice ka x.kids.length cap]) ?_ (by subst hSp; exact rfl)
      simp only [execOp, resolve, invoke, List.map_toArray, List.map_cons, List.map_nil, e3]; go_simp
    · have d17 : xa.eval (.tmp 17) = .agg #[.int .i64 x.kind, .string x.text, .int .i64 x.n, .string x.name, .slice ka x.kids.length cap] := by have h_ := hI.dep haft 2 17 rfl rfl rfl; rw [hSp] at h_; exact h_
      refine op_call (f := 5) (args := #[.agg #[.int .i64 x.kind, .string x.text, .int .i64 x.n, .string x.name, .slice ka x.kids.length cap]]) ?_ ?_
      · simp only [execOp, resolve, invoke, List.map_toArray, List.map_cons, List.map_nil, d17]; go_simp
      · exact (HE2.out _ J).mono fun e w' h => ⟨_, h.1, by subst hSp; exact rfl, h.2⟩
    · have d16 : xa.eval (.tmp 16) = .int .i64 (exprE x) := by have h_ := hI.dep haft 1 16 rfl rfl rfl; rw [hSp] at h_; exact h_
      have d18 : xa.eval (.tmp 18) = .int .i64 (exprE x) := by have h_ := hI.dep haft 3 18 rfl rfl rfl; rw [hSp] at h_; exact h_
      refine op_val (v := .bool false) ?_ (by subst hSp; exact rfl)
      simp only [execOp, resolve, invoke, List.map_toArray, List.map_cons, List.map_nil, d16, d18]; go_simp
  · intro f wy hK hS
    have h_ := hS 4 _ 19 rfl rfl
    rw [hSp] at h_
    have e19 : f 19 = .bool false := h_
    have K2 := Lib.hid hK
    clear hK hS h_
    simp only [setAll, List.foldl_cons, List.foldl_nil, List.setIfInBounds_toArray, List.set_cons_zero, List.set_cons_succ, e19]
    clear e19
    have K02 := Lib.hid (K1.out.trans K2.out)
    clear F1 HE1 HE2 K1 K2
    go_upto_region 4 with fail
    go_loopw [22] (fun i wr => ∃ j : Nat, j ≤ l.length ∧ i = .int .i64 j ∧ Hid (Kept Nix w wr)) (fun i _ => l.length - (intOf i).toNat)
    case atStart => exact ⟨0, Nat.zero_le _, rfl, K02⟩
    case round =>
      obtain ⟨j, hj, rfl, KR⟩ := hrel
      by_cases hlt : j < l.length
      · obtain ⟨b, o, rfl, hcl⟩ := (HL.out.to KR.out (Safe.lt (Nat.le_refl _)) (fun _ h => h)) (by omega)
        obtain ⟨a, hx, hSb, hz, hcc, ho⟩ := hcl j hlt
        obtain ⟨s, hsd⟩ : ∃ s, s = l[j] := ⟨_, rfl⟩
        rw [← hsd] at hx hz hcc ho
        have HX := Lib.hid hx; have HZ := Lib.hid hz; have HO := Lib.hid ho
        clear hcl hx hz ho hsd hSb
        go_upto_region 6 with (first
          | (refine wpList_load_st rfl _ rfl b (o + j * 24) rfl a s hcc ?_)
          | (refine wpList_store_st rfl _ _ rfl wr.heap.size rfl a s rfl _ (heap_alloc_new wr _) rfl ?_; intro w6 hB6 hk6; have KA6 : Hid (Kept Nix wr w6) := ((Kept.refl Nix wr).alloc _).step hk6 (fun y hy => .inr (by subst hy; exact Nat.le_refl _)); have HB6 := Lib.hid hB6; clear hB6 hk6))
        try dsimp only [Act.put]
        obtain ⟨M, hM⟩ : ∃ M, M = wr.heap.size := ⟨_, rfl⟩
        rw [← hM] at HB6 ⊢
        have K6 := Lib.hid (KR.out.trans KA6.out)
        clear hM hcc
        have HST : Hid (∀ wy, Kept Nix w6 wy → StOk wy (· < wy.heap.size) a s ∧ GlobW wy) := fun wy hk => ⟨HO.out.to (KA6.out.trans hk) (Safe.lt KR.out.size) (fun y h => Nat.lt_of_lt_of_le h (K6.out.trans hk).size), HG.out.next (K6.out.trans hk)⟩
        have HS1 : Hid (∀ wy, Kept Nix w6 wy → Calls Tryz.prog 6 #[stVal a s] wy (IntQ (wrongS s) wy)) := fun wy hk => wrong_st s _ (· < wy.heap.size) wy ⟨a, rfl, HZ.out, (HST.out wy hk).1⟩ (Safe.lt (Nat.le_refl _))
        have HS2 : Hid (∀ wy, Kept Nix w6 wy → Calls Tryz.prog 7 #[stVal a s] wy (IntQ (wrongS s) wy)) := fun wy hk => refWrong_st s _ (· < wy.heap.size) wy ⟨a, rfl, HZ.out, (HST.out wy hk).1⟩ (Safe.lt (Nat.le_refl _))
        have HP1 : Hid (∀ wy, Kept Nix w6 wy → Calls Tryz.prog 8 #[stVal a s] wy (PrintSQ s wy)) := fun wy hk => sprint_st s a wy HZ.out (HST.out wy hk).1 HX.out (HST.out wy hk).2
        have HP2 : Hid (∀ wy, Kept Nix w6 wy → Calls Tryz.prog 9 #[stVal a s] wy (PrintSQ s wy)) := fun wy hk => refPrint_st s a wy HZ.out (HST.out wy hk).1 HX.out (HST.out wy hk).2
        clear HST HX HZ HO
        obtain ⟨Sp, hSp⟩ : ∃ Sp : Nat → Value → World → Prop, Sp = (fun i v wx => match i with
          | 0 => v = stVal a s
          | 1 => v = .int .i64 (wrongS s)
          | 2 => v = stVal a s
          | 3 => v = .int .i64 (wrongS s)
          | _ => v = .bool false) := ⟨_, rfl⟩
        refine wp_specs2 Sp [26, 27, 28, 29, 30] (by kernel_rfl) (by kernel_rfl) (by kernel_rfl) (fun i v w w' h hk => by
            subst hSp
            rcases i with _ | _ | _ | _ | _ | i
            all_goals (first
              | exact h)) ?_ ?_
        · intro i o hi l xa wy hI hlf haft
          have e6 : xa.eval (.tmp 6) = .pointer (some ⟨M, 0, none⟩) := hI.keep 6 _ rfl (by kernel_rfl)
          have J := hI.kept
          have FB := HB6.out.kept J (fun h => h)
          rcases i with _ | _ | _ | _ | _ | i
          all_goals (simp only [List.getElem?_toArray, List.getElem?_cons_zero, List.getElem?_cons_succ, List.getElem?_nil, Option.some.injEq, reduceCtorEq] at hi)
          all_goals subst hi
          · refine op_val (v := stVal a s) ?_ (by subst hSp; exact rfl)
            exact ld_st e6 (stB_hc FB) rfl
          · have d26 : xa.eval (.tmp 26) = stVal a s := by have h_ := hI.dep haft 0 26 rfl rfl rfl; rw [hSp] at h_; exact h_
            refine op_call (f := 6) (args := #[stVal a s]) ?_ ?_
            · simp only [execOp, resolve, invoke, List.map_toArray, List.map_cons, List.map_nil, d26]; go_simp
            · exact (HS1.out _ J).mono fun e w' h => ⟨_, h.1, by subst hSp; exact rfl, h.2⟩
          · refine op_val (v := stVal a s) ?_ (by subst hSp; exact rfl)
            exact ld_st e6 (stB_hc FB) rfl
          · have d28 : xa.eval (.tmp 28) = stVal a s := by have h_ := hI.dep haft 2 28 rfl rfl rfl; rw [hSp] at h_; exact h_
            refine op_call (f := 7) (args := #[stVal a s]) ?_ ?_
            · simp only [execOp, resolve, invoke, List.map_toArray, List.map_cons, List.map_nil, d28]; go_simp
            · exact (HS2.out _ J).mono fun e w' h => ⟨_, h.1, by subst hSp; exact rfl, h.2⟩
          · have d27 : xa.eval (.tmp 27) = .int .i64 (wrongS s) := by have h_ := hI.dep haft 1 27 rfl rfl rfl; rw [hSp] at h_; exact h_
            have d29 : xa.eval (.tmp 29) = .int .i64 (wrongS s) := by have h_ := hI.dep haft 3 29 rfl rfl rfl; rw [hSp] at h_; exact h_
            refine op_val (v := .bool false) ?_ (by subst hSp; exact rfl)
            simp only [execOp, resolve, invoke, List.map_toArray, List.map_cons, List.map_nil, d27, d29]; go_simp
        · intro f wy hK hS
          have h_ := hS 4 _ 30 rfl rfl
          rw [hSp] at h_
          have e30 : f 30 = .bool false := h_
          have K7 := Lib.hid hK
          clear hK hS h_
          simp only [setAll, List.foldl_cons, List.foldl_nil, List.setIfInBounds_toArray, List.set_cons_zero, List.set_cons_succ, e30]
          clear e30
          obtain ⟨p1, hp1⟩ : ∃ q, q = (printS s).1 := ⟨_, rfl⟩
          obtain ⟨p2, hp2⟩ : ∃ q, q = (printS s).2 := ⟨_, rfl⟩
          have HQ1 := Lib.hid hp1; have HQ2 := Lib.hid hp2
          clear hp1 hp2
          have HHC := Lib.hid (stB_hc (HB6.out.kept K7.out (fun h => h)))
          have HH8 : Hid (∀ wx, Kept Nix wy wx → ∀ i (hi : i < 24), wx.cell? ⟨M, 0 + i, none⟩ = some ((stCells a s)[i]'(by simpa [stCells] using hi))) := fun wx hk => stB_hc (HB6.out.kept (K7.out.trans hk) (fun h => h))
          go_wp2_with (first
            | (refine wpList_load_st rfl _ rfl M 0 rfl a s HHC.out ?_)
            | (go_at_call 8; (refine (HP1.out wy K7.out).mono ?_); rintro e w8 ⟨rfl, k8_⟩; rw [← HQ1.out, ← HQ2.out]; have K8 := Lib.hid k8_; clear k8_)
            | (refine wpList_load_st rfl _ rfl M 0 rfl a s (HH8.out w8 K8.out) ?_)
            | (go_at_call 9; (refine (HP2.out w8 (K7.out.trans K8.out)).mono ?_); rintro e w9 ⟨rfl, k9_⟩; rw [← HQ1.out, ← HQ2.out]; have K9 := Lib.hid k9_; clear k9_))
          go_roundw
          case rel => exact ⟨j + 1, by omega, by go_num, ((K6.out.trans K7.out).trans K8.out).trans K9.out⟩
          case measure => simp [intOf]; omega
      · obtain rfl : j = l.length := by omega
        have HH1 := Lib.hid (sshow_any l al cl wr (HL.out.to KR.out (Safe.lt (Nat.le_refl _)) (fun y h => Nat.lt_of_lt_of_le h KR.out.size)) hlen (HG.out.next KR.out))
        have HH2 : Hid (∀ wy, Kept Nix wr wy → Calls Tryz.prog 11 #[.slice al l.length cl] wy (ShowPQ l wy)) := fun wy hk => rshow_any l al cl wy (HL.out.to (KR.out.trans hk) (Safe.lt (Nat.le_refl _)) (fun y h => Nat.lt_of_lt_of_le h (KR.out.trans hk).size)) hlen (HG.out.next (KR.out.trans hk))
        obtain ⟨q1, hq1⟩ : ∃ q, q = (progS l).1 := ⟨_, rfl⟩
        obtain ⟨q2, hq2⟩ : ∃ q, q = (progS l).2.1 := ⟨_, rfl⟩
        obtain ⟨q3, hq3⟩ : ∃ q, q = (progS l).2.2 := ⟨_, rfl⟩
        have HQ1 := Lib.hid hq1; have HQ2 := Lib.hid hq2; have HQ3 := Lib.hid hq3
        clear hq1 hq2 hq3
        go_upto_region 14 with (go_at_call 10; (refine HH1.out.mono ?_); rintro e w8 ⟨rfl, k8_⟩; rw [← HQ1.out, ← HQ2.out, ← HQ3.out]; have K8 := Lib.hid k8_; clear k8_)
        obtain ⟨w9, hw9⟩ : ∃ w9, w9 = w8.alloc (.cells #[.int .i64 q2, .int .i64 (q3 : Int)] 38) := ⟨_, rfl⟩
        have k9 : Kept Nix w8 w9 := by rw [hw9]; exact (Kept.refl _ _).alloc _
        have F9 : Hid (Fl w8.heap.size q2 q3 w9) := by rw [hw9]; exact heap_alloc_new w8 _
        have K9 := Lib.hid (K8.out.trans k9)
        rw [← hw9]
        obtain ⟨F, hF⟩ : ∃ F, F = w8.heap.size := ⟨_, rfl⟩
        rw [← hF] at F9 ⊢
        clear hw9 k9 hF K8 HH1
        go_upto_region 15 with (go_at_call 11; (refine (HH2.out w9 K9.out).mono ?_); rintro e w10 ⟨rfl, k10_⟩; rw [← HQ1.out, ← HQ2.out, ← HQ3.out]; have K10 := Lib.hid (K9.out.trans k10_); have F10 := Lib.hid (F9.out.kept k10_ (fun h => h)); clear k10_)
        obtain ⟨w11, hw11⟩ : ∃ w11, w11 = w10.alloc (.cells #[.int .i64 q2, .int .i64 (q3 : Int)] 38) := ⟨_, rfl⟩
        have k11 : Kept Nix w10 w11 := by rw [hw11]; exact (Kept.refl _ _).alloc _
        have G11 : Hid (Fl w10.heap.size q2 q3 w11) := by rw [hw11]; exact heap_alloc_new w10 _
        have F11 := Lib.hid (F10.out.kept k11 (fun h => h))
        have K11 := Lib.hid ((KR.out.trans K10.out).trans k11)
        rw [← hw11]
        obtain ⟨G, hG⟩ : ∃ G, G = w10.heap.size := ⟨_, rfl⟩
        rw [← hG] at G11 ⊢
        clear hw11 k11 hG HH2
        obtain ⟨f0, f1, _, _⟩ := F11.out.cells
        obtain ⟨g0, g1, _, _⟩ := G11.out.cells
        go_wp2_with fail
        go_ret
        exact ⟨rfl, K11.out⟩
end Go.Proofs.YtcfcdobgpldoiaaGreatDoor
