/- The program's reader of lines: the closure that catches what the reader throws. The program's reader of lines: Line: its doors. -/
import Derived.Test.YtlnhcgihpclpaaaGreatDoorLm22
import Derived.Test.YtlnhcgihpclpaaaGreatDoorLm23
namespace Go.Proofs.YtlnhcgihpclpaaaGreatDoor
set_option linter.all false
open Go.RowKit

/-- The three answers, as far as they are stored. -/
def JT (A B C : Nat) (p3 p4 p5 : Bool) (a : StA) (s : StT) (v c0 c1 : Value) (w : World) : Prop := Tri A B C w ∧ (p3 = true → StB A a s w) ∧ (p4 = true → Cel w B 4 v) ∧ (p5 = true → Two C c0 c1 w)
section
variable {A B C : Nat} {p3 p4 p5 : Bool} {a : StA} {s : StT} {v c0 c1 : Value} {w : World}
theorem JT.sB (hne : A ≠ B ∧ A ≠ C ∧ B ≠ C) (h : JT A B C p3 p4 p5 a s v c0 c1 w) : JT A B C p3 true p5 a s v c0 c1 (w.setCell ⟨B, 0, none⟩ v) :=
  ⟨tri_B hne h.1, fun e => st_B hne (h.2.1 e), fun _ => cel_set h.1, fun e => two_B hne (h.2.2.2 e)⟩
theorem JT.sF (hne : A ≠ B ∧ A ≠ C ∧ B ≠ C) (h : JT A B C p3 p4 p5 a s v c0 c1 w) : JT A B C p3 p4 true a s v c0 c1 ((w.setCell ⟨C, 0, none⟩ c0).setCell ⟨C, 1, none⟩ c1) :=
  ⟨tri_C1 hne (tri_C0 hne h.1), fun e => st_C hne (st_C hne (h.2.1 e)), fun e => cel_C hne (cel_C hne (h.2.2.1 e)), fun _ => two_set h.1⟩
theorem JT.sS {w2 : World} (hne : A ≠ B ∧ A ≠ C ∧ B ≠ C) (h : JT A B C p3 p4 p5 a s v c0 c1 w) (hk : Kept (· = A) w w2) (hB : StB A a s w2) : JT A B C true p4 p5 a s v c0 c1 w2 := by
  obtain ⟨⟨a0, s0, v0, d0, d1, hT⟩, h3, h4, h5⟩ := h
  refine ⟨⟨_, _, _, _, _, hT.setS hne hk hB⟩, fun _ => hB, fun e => ?_, fun e => (h5 e).kept hk (fun e => hne.2.1 e.symm)⟩
  unfold Cel; rw [hk.block B (h4 e).lt (fun e => hne.1 e.symm)]; exact h4 e
theorem JT.start (h : Tri A B C w) : JT A B C false false false a s v c0 c1 w.drew := ⟨tri_drew h, fun e => (by cases e), fun e => (by cases e), fun e => (by cases e)⟩
end
theorem exec_store_st {x : Act} {o : Oper} {p y : Operand} {A : Nat} {a0 : StA} {s0 : StT} {w : World} (ho : o.op = .store 49 p y) (hB0 : StB A a0 s0 w) (hp : x.eval p = .pointer (some ⟨A, 0, none⟩)) (sa : StA) (s : StT) (hx : x.eval y = stVal sa s) :
    ∃ w', (execOp x.eval o).run Tryz.prog w = .ok .skip w' ∧ StB A sa s w' ∧ Kept (· = A) w w' := by
  unfold StB at hB0
  obtain ⟨w', hr, hB, hk⟩ := storeSt (sa := sa) (s := s) hB0 rfl
  refine ⟨w', ?_, hB, hk⟩
  unfold execOp
  rw [ho]
  simp only [hp, hx, Sem.run_bind, hr, Result.andThen_ok, Sem.run_pure]
theorem exec_load_st {x : Act} {o : Oper} {p : Operand} {A : Nat} {sa : StA} {s : StT} {w : World} (ho : o.op = .load 49 p) (hB : StB A sa s w) (hp : x.eval p = .pointer (some ⟨A, 0, none⟩)) :
    (execOp x.eval o).run Tryz.prog w = .ok (.value (stVal sa s)) w := by
  unfold execOp
  rw [ho]
  simp only [hp, Sem.run_bind, loadSt hB.hc0, Result.andThen_ok, Sem.run_pure]
def CatchL (A B C : Nat) (er : Er) (w : World) (e : Ending) (u : FrameMode) (w' : World) : Prop :=
  e = .returned (.tuple #[]) ∧ u = .panicking [{ v := lineOops er, recovered := true }] ∧ Tr3 A B C nilA stZ (.bool false) (.int .i64 er.1) (.int .i64 er.2) w' ∧ Kept (In3 A B C) w w'
set_option maxRecDepth 100000 in
set_option maxHeartbeats 4000000 in
theorem catch_line (A B C : Nat) (hne : A ≠ B ∧ A ≠ C ∧ B ≠ C) (er : Er) (w : World) (hT : Tri A B C w) :
    CallsD Tryz.prog 22 #[.pointer (some ⟨A, 0, none⟩), .pointer (some ⟨B, 0, none⟩), .pointer (some ⟨C, 0, none⟩)] (.panicking [{ v := lineOops er, recovered := false }]) w (CatchL A B C er w) := by
  have hta : ∀ (x : Value) (w : World), (Instr.typeAssert (.iface 61 x) 20 61 true).run Tryz.prog w = .ok (.tuple #[x, .bool true]) w := fun _ _ => by kernel_rfl
  refine callsD_of_wpS Tryz.func22 rfl fun c₀ cs hu => ?_
  obtain ⟨e1, e2⟩ := er
  have HU := Lib.hid hu; have HT := Lib.hid hT
  have hlA : A < w.heap.size ∧ B < w.heap.size ∧ C < w.heap.size := by obtain ⟨a, s, v, c0, c1, h⟩ := hT; exact ⟨h.st.lt, h.bo.lt, h.fl.lt⟩
  apply wpS_seq
  apply wpS_region
  simp [wpOpsS, go_sem, recoverD, hu, Tryz.ntmps22, Exit.thenS]
  clear hT hu
  unfold lineOops
  dsimp only
  show Code.wpS _ _ _ ⟨#[.pointer (some ⟨A, 0, none⟩), .pointer (some ⟨B, 0, none⟩), .pointer (some ⟨C, 0, none⟩), undef, undef, undef, .iface 61 (.agg #[.int .i64 e1, .int .i64 e2]), undef, undef, undef, undef, undef, undef, undef, undef], []⟩ _ _
  refine wpS_of_wp ?_
  go_upto_region 7 with fail
  obtain ⟨w6, hw6⟩ : ∃ w6, w6 = w.alloc (.cells #[.int .i64 e1, .int .i64 e2] 61) := ⟨_, rfl⟩
  have k6 : Kept Nix w w6 := by rw [hw6]; exact (Kept.refl Nix w).alloc _
  have T6 := Lib.hid (HT.out.kept k6 ⟨fun h => h, fun h => h, fun h => h⟩)
  have X6 : w6.heap[w.heap.size]? = some (.cells #[.int .i64 e1, .int .i64 e2] 61 (0, 0)) := by rw [hw6]; exact heap_alloc_new w _
  obtain ⟨X, hX⟩ : ∃ X, X = w.heap.size := ⟨_, rfl⟩
  rw [← hX] at X6 hlA
  rw [← hw6, ← hX]
  have cx0 : w6.cell? ⟨X, 0, none⟩ = some (.int .i64 e1) := by rw [cell_of_row w6 X _ _ _ _ X6]; rfl
  have cx1 : w6.cell? ⟨X, 1, none⟩ = some (.int .i64 e2) := by rw [cell_of_row w6 X _ _ _ _ X6]; rfl
  have hXl : Hid (X < w6.heap.size ∧ ¬ In3 A B C X) := ⟨(Array.getElem?_eq_some_iff.1 X6).1, fun h => by rcases h with h | h | h <;> omega⟩
  have K6 := Lib.hid k6
  have CX := Lib.hid (And.intro cx0 cx1)
  clear hw6 k6 hX X6 cx0 cx1
  obtain ⟨Sp, hSp⟩ : ∃ Sp : Nat → Value → World → Prop, Sp = (fun i v wx => match i with
    | 0 => v = stVal nilA stZ
    | 1 => v = .pointer (some ⟨X, 0, none⟩)
    | 2 => v = .agg #[.int .i64 e1, .int .i64 e2]
    | _ => True) := ⟨_, rfl⟩
  obtain ⟨J, hJd⟩ : ∃ J : (Nat → Bool) → (Nat → Value) → World → Prop, J = (fun pp f wx => JT A B C (pp 3) (pp 4) (pp 5) nilA stZ (.bool false) (.int .i64 e1) (.int .i64 e2) wx) := ⟨_, rfl⟩
  refine wp_specsXG2 (In3 A B C) J Sp [12, 13, 14] (by kernel_rfl) (by kernel_rfl) (by kernel_rfl) (fun i v w w' h hk => by subst hSp; exact h) ?_ ?_ ?_ ?_
  · intro i o hi lq x wy hI hJ hlf haft
    rw [hJd] at hJ
    have hJ : JT A B C (lq 3) (lq 4) (lq 5) nilA stZ (.bool false) (.int .i64 e1) (.int .i64 e2) wy := hJ
    have s0 : x.eval (.tmp 0) = .pointer (some ⟨A, 0, none⟩) := hI.keep 0 _ rfl (by kernel_rfl)
    have s1 : x.eval (.tmp 1) = .pointer (some ⟨B, 0, none⟩) := hI.keep 1 _ rfl (by kernel_rfl)
    have s2 : x.eval (.tmp 2) = .pointer (some ⟨C, 0, none⟩) := hI.keep 2 _ rfl (by kernel_rfl)
    have s4 : x.eval (.tmp 4) = .pointer (some ⟨X, 0, none⟩) := hI.keep 4 _ rfl (by kernel_rfl)
    obtain ⟨⟨vb, cb⟩, fb, ⟨vc, cc0⟩, ⟨vd, cc1⟩, fc0, fc1⟩ := hJ.1.cells
    have cx0 := (hI.kept.cell hXl.out.1 hXl.out.2 (o := 0)).trans CX.out.1
    have cx1 := (hI.kept.cell hXl.out.1 hXl.out.2 (o := 1)).trans CX.out.2
    have hjn : ∀ (l' : Nat → Bool), (∀ j, l' j = true ↔ j = i ∨ lq j = true) → (∀ j ∈ ([3, 4, 5] : List Nat), i ≠ j) → ∀ f, J l' f wy := by
      intro l' hl hne f
      rw [hJd]
      show JT A B C (l' 3) (l' 4) (l' 5) nilA stZ (.bool false) (.int .i64 e1) (.int .i64 e2) wy
      rw [upd_ne hl 3 (Ne.symm (hne 3 (by simp)))]
      rw [upd_ne hl 4 (Ne.symm (hne 4 (by simp)))]
      rw [upd_ne hl 5 (Ne.symm (hne 5 (by simp)))]
      exact hJ
    rcases i with _ | _ | _ | _ | _ | _ | i
    all_goals (simp only [List.getElem?_toArray, List.getElem?_cons_zero, List.getElem?_cons_succ, List.getElem?_nil, Option.some.injEq, reduceCtorEq] at hi)
    all_goals subst hi
    · refine wantN rfl ?_
      refine opX_val (v := stVal nilA stZ) ?_ (by subst hSp; exact rfl) (fun l' hl => hjn l' hl (by decide) _)
      simp only [execOp, resolve, invoke, List.map_toArray, List.map_cons, List.map_nil, List.map_nil]; go_simp; try rfl
    · refine wantN rfl ?_
      refine opX_val (v := .pointer (some ⟨X, 0, none⟩)) ?_ (by subst hSp; exact rfl) (fun l' hl => hjn l' hl (by decide) _)
      simp only [execOp, resolve, invoke, List.map_toArray, List.map_cons, List.map_nil, s4]; go_simp
    · refine wantN rfl ?_
      have d13 : x.eval (.tmp 13) = .pointer (some ⟨X, 0, none⟩) := by have h_ := hI.dep haft 1 13 rfl rfl rfl; rw [hSp] at h_; exact h_
      refine opX_val (v := .agg #[.int .i64 e1, .int .i64 e2]) ?_ (by subst hSp; exact rfl) (fun l' hl => hjn l' hl (by decide) _)
      simp only [execOp, resolve, invoke, List.map_toArray, List.map_cons, List.map_nil, d13]; go_simp
    · refine wantN rfl ?_
      have d12 : x.eval (.tmp 12) = stVal nilA stZ := by have h_ := hI.dep haft 0 12 rfl rfl rfl; rw [hSp] at h_; exact h_
      obtain ⟨a0, s0_, v0_, c0_, c1_, hT0⟩ := hJ.1
      refine opX_exec (F := fun w' => StB A nilA stZ w' ∧ Kept (· = A) wy w') (exec_store_st rfl hT0.st s0 nilA stZ d12) rfl (fun w' hf => hf.2.more fun _ h => .inl h) (fun w' hf l' hl => ?_)
      rw [hJd]
      show JT A B C (l' 3) (l' 4) (l' 5) nilA stZ (.bool false) (.int .i64 e1) (.int .i64 e2) w'
      rw [upd_self hl, upd_ne hl 4 (by decide), upd_ne hl 5 (by decide)]
      exact hJ.sS hne hf.2 hf.1
    · refine wantN rfl ?_
      refine opX_skip (w' := wy.setCell ⟨B, 0, none⟩ (.bool false)) ?_ rfl (k3_B (Kept.refl _ _)) (fun l' hl => ?_)
      · simp only [execOp, resolve, invoke, List.map_toArray, List.map_cons, List.map_nil, s1]; go_simp
      · rw [hJd]
        show JT A B C (l' 3) (l' 4) (l' 5) nilA stZ (.bool false) (.int .i64 e1) (.int .i64 e2) _
        rw [upd_self hl, upd_ne hl 3 (by decide), upd_ne hl 5 (by decide)]
        exact hJ.sB hne
    · refine wantN rfl ?_
      have d14 : x.eval (.tmp 14) = .agg #[.int .i64 e1, .int .i64 e2] := by have h_ := hI.dep haft 2 14 rfl rfl rfl; rw [hSp] at h_; exact h_
      refine opX_skip (w' := (wy.setCell ⟨C, 0, none⟩ (.int .i64 e1)).setCell ⟨C, 1, none⟩ (.int .i64 e2)) ?_ rfl (k3_C (k3_C (Kept.refl _ _))) (fun l' hl => ?_)
      · simp only [execOp, resolve, invoke, List.map_toArray, List.map_cons, List.map_nil, s2, d14]; go_simp
      · rw [hJd]
        show JT A B C (l' 3) (l' 4) (l' 5) nilA stZ (.bool false) (.int .i64 e1) (.int .i64 e2) _
        rw [upd_self hl, upd_ne hl 3 (by decide), upd_ne hl 4 (by decide)]
        exact hJ.sF hne
  · intro lq hl
    rw [hJd]
    show JT A B C (lq 3) (lq 4) (lq 5) nilA stZ (.bool false) (.int .i64 e1) (.int .i64 e2) w6.drew
    rw [hl 3 (by decide)]
    rw [hl 4 (by decide)]
    rw [hl 5 (by decide)]
    exact JT.start T6.out
  · intro lq l' f wx hl h
    rw [hJd] at h ⊢
    have h : JT A B C (lq 3) (lq 4) (lq 5) nilA stZ (.bool false) (.int .i64 e1) (.int .i64 e2) wx := h
    show JT A B C (l' 3) (l' 4) (l' 5) nilA stZ (.bool false) (.int .i64 e1) (.int .i64 e2) wx
    rw [← hl 3 (by decide)]
    rw [← hl 4 (by decide)]
    rw [← hl 5 (by decide)]
    exact h
  · intro f wy hK hS hJ
    rw [hJd] at hJ
    have hJ : JT A B C ((fun _ => true) 3) ((fun _ => true) 4) ((fun _ => true) 5) nilA stZ (.bool false) (.int .i64 e1) (.int .i64 e2) wy := hJ
    have K7 : Kept (In3 A B C) w6 wy := hK
    simp only [setAll, List.foldl_cons, List.foldl_nil, List.setIfInBounds_toArray, List.set_cons_zero, List.set_cons_succ]
    go_wp2_with fail
    exact ⟨rfl, _, rfl, .tuple #[], by simp [results, Tryz.results22, go_sem], rfl, rfl, ⟨hJ.2.1 rfl, hJ.2.2.1 rfl, hJ.2.2.2 rfl⟩, (K6.out.more (fun _ h => h.elim)).trans K7⟩
set_option maxRecDepth 100000 in
set_option maxHeartbeats 1000000 in
theorem catch_line_idle (a b c : Value) (w : World) :
    CallsD Tryz.prog 22 #[a, b, c] .returning w fun e u' w' => e = .returned (.tuple #[]) ∧ u' = .returning ∧ w = w' := by
  refine callsD_of_wpS Tryz.func22 rfl fun c₀ cs hu => ?_
  have HU := Lib.hid hu
  apply wpS_seq
  apply wpS_region
  simp [wpOpsS, go_sem, recoverD, hu, Tryz.ntmps22, Exit.thenS]
  clear hu
  show Code.wpS _ _ _ ⟨#[a, b, c, undef, undef, undef, .nilIface, undef, undef, undef, undef, undef, undef, undef, undef], []⟩ _ _
  refine wpS_of_wp ?_
  go_wp2_with fail
  refine ⟨rfl, .returning, ?_, .tuple #[], by simp [results, Tryz.results22, go_sem], rfl, rfl, rfl⟩
  have h := HU.out
  cases c₀; simp_all
end Go.Proofs.YtlnhcgihpclpaaaGreatDoor

namespace Go.Proofs.YtlnhcgihpclpaaaGreatDoor
set_option linter.all false
open Go.RowKit

theorem lexStep_bad {s : ByteArray} {i : Nat} {h : i < s.size} {er : Er} (e : lexStep s i h = .bad er) : er.1 = 2 := by
  unfold lexStep at e
  repeat' split at e
  all_goals first | (cases e; done) | (simp only [LStep.bad.injEq] at e; subst e; rfl)
theorem lexGo_bad {s : ByteArray} : ∀ (f i : Nat) (out : List LTok) {er : Er}, lexGo s f i out = .error er → er.1 = 2
  | 0, _, _, er, h => by cases h
  | f + 1, i, out, er, h => by
    rw [lexGo] at h
    split at h
    · split at h
      · exact lexGo_bad f _ _ h
      · exact lexGo_bad f _ _ h
      · next e => simp only [Except.error.injEq] at h; subst h; exact lexStep_bad e
    · cases h
theorem lexF_bad {s : ByteArray} {er : Er} (h : lexF s = .error er) : er.1 ≠ 0 := by
  unfold lexF at h
  split at h
  · simp only [Except.error.injEq] at h; subst h; decide
  · have := lexGo_bad _ _ _ h; omega
theorem line_ret {f : Func} {R : Ending → World → Prop} {w1 : World} {tmps : Array Value} {A B C : Nat} {a : StA} {s : StT} {v c0 c1 : Value} (hres : f.results = #[.cell 2 49, .cell 3 4, .cell 4 30]) (h2 : tmps.getD 2 undef = .pointer (some ⟨A, 0, none⟩)) (h3 : tmps.getD 3 undef = .pointer (some ⟨B, 0, none⟩)) (h4 : tmps.getD 4 undef = .pointer (some ⟨C, 0, none⟩))
    (hT : Tr3 A B C a s v c0 c1 w1) (hR : R (.returned (.tuple #[stVal a s, v, .agg #[c0, c1]])) w1) :
    bodyPostD Tryz.prog f R .ret ⟨tmps, [{ target := .fn (.func 22) #[.pointer (some ⟨A, 0, none⟩), .pointer (some ⟨B, 0, none⟩), .pointer (some ⟨C, 0, none⟩)], args := #[] }]⟩ w1 := by
  refine leaves_cons (f := 22) (args := #[.pointer (some ⟨A, 0, none⟩), .pointer (some ⟨B, 0, none⟩), .pointer (some ⟨C, 0, none⟩)]) (by simp) (by simp [go_sem]) ?_
  refine (catch_line_idle _ _ _ w1).mono ?_
  rintro e u' w2 ⟨rfl, rfl, rfl⟩
  exact ⟨_, results_line hres h2 h3 h4 hT, hR⟩
theorem line_panic {f : Func} {R : Ending → World → Prop} {w1 : World} {tmps : Array Value} {A B C : Nat} {er : Er} (hne : A ≠ B ∧ A ≠ C ∧ B ≠ C) (hres : f.results = #[.cell 2 49, .cell 3 4, .cell 4 30]) (h2 : tmps.getD 2 undef = .pointer (some ⟨A, 0, none⟩)) (h3 : tmps.getD 3 undef = .pointer (some ⟨B, 0, none⟩)) (h4 : tmps.getD 4 undef = .pointer (some ⟨C, 0, none⟩))
    (hT : Tri A B C w1) (hR : ∀ w2, Kept (In3 A B C) w1 w2 → R (.returned (.tuple #[stVal nilA stZ, .bool false, .agg #[.int .i64 er.1, .int .i64 er.2]])) w2) :
    bodyPostD Tryz.prog f R (.panic [{ v := lineOops er, recovered := false }]) ⟨tmps, [{ target := .fn (.func 22) #[.pointer (some ⟨A, 0, none⟩), .pointer (some ⟨B, 0, none⟩), .pointer (some ⟨C, 0, none⟩)], args := #[] }]⟩ w1 := by
  refine leaves_cons (f := 22) (args := #[.pointer (some ⟨A, 0, none⟩), .pointer (some ⟨B, 0, none⟩), .pointer (some ⟨C, 0, none⟩)]) (by simp) (by simp [go_sem]) ?_
  refine (catch_line A B C hne er w1 hT).mono ?_
  rintro e u' w2 ⟨rfl, rfl, T, k⟩
  show Leaves _ _ _ _ [] (settle (.panicking [{ v := lineOops er, recovered := true }])) w2
  exact ⟨_, results_line hres h2 h3 h4 T, hR w2 k⟩
theorem guardT {ops : Array Oper} {o oj : Oper} {x : Act} {j d : Nat} {b : Bool} {p q : Prop} (hg : o.guard = some (j, true)) (ho : ops[j]? = some oj) (hd : oj.dst = some d) (hv : x.eval (.tmp d) = .bool b) (hlt : d < x.tmps.size) (hp : b = true → p) (hq : b = false → q) :
    if Region.wanted o (yielded ops x.tmps) = true then p else q := by
  have hv' : x.tmps[d]? = some (.bool b) := by
    have : x.tmps.getD d undef = .bool b := hv
    rw [Array.getD_eq_getD_getElem?, Array.getElem?_eq_getElem hlt] at this
    rw [Array.getElem?_eq_getElem hlt]
    exact congrArg some this
  have hw : Region.wanted o (yielded ops x.tmps) = b := by
    simp only [Region.wanted, hg, yielded, ho, Option.bind_some, hd, hv']
    cases b <;> rfl
  rw [hw]
  cases b with
  | true => exact hp rfl
  | false => exact hq rfl
end Go.Proofs.YtlnhcgihpclpaaaGreatDoor
