/- gram.empty: may a pattern match nothing, as far as is known? -/
import Derived.Test.YtdkpdomggbiolaaNul
import Derived.Test.YtdkpdomggbiolaaIdxP
import Derived.Test.YtdkpdomggbiolaaMap
namespace Go.Proofs.Ytdkpdomggbiolaa
set_option linter.all false
open Go.RowKit

def mB (mF : ByteArray → Option Int) (n : ByteArray) : Bool := decide ((mF n).getD 0 = 1)
theorem emptyAll_any (m : ByteArray → Bool) : ∀ q : List PatT, emptyAll m q = !(q.any fun x => !emptyF m x)
  | [] => by rw [emptyAll]; rfl
  | x :: q => by rw [emptyAll, emptyAll_any m q, List.any_cons]; cases emptyF m x <;> simp
theorem emptyAny_any (m : ByteArray → Bool) : ∀ q : List PatT, emptyAny m q = q.any fun x => emptyF m x
  | [] => by rw [emptyAny]; rfl
  | x :: q => by rw [emptyAny, emptyAny_any m q, List.any_cons]
def EmpOk (mF : ByteArray → Option Int) (MB n1 : Nat) (p : PatT) : Prop := ∀ (S : Nat → Prop) (b o : Nat) (w : World), PatAt w S b o p → Safe S Nix w.heap.size → MapF w MB n1 mF →
  Calls Try.prog 21 #[.pointer (some ⟨b, o, none⟩), .map (some MB)] w (BoolQ (emptyF (mB mF) p) w)
set_option maxRecDepth 100000 in
theorem empty1_any (mF : ByteArray → Option Int) (MB n1 C : Nat) (l : List PatT) (S : Nat → Prop) (w : World) (hall : ∀ x ∈ l, EmpOk mF MB n1 x) (hC : Cel w C 48 (.map (some MB))) (hM : MapF w MB n1 mF) (hS : Safe S Nix w.heap.size) :
    PredP S 44 #[.pointer (some ⟨C, 0, none⟩)] l (fun x => !emptyF (mB mF) x) w := by
  intro W v x hx hk hv
  obtain ⟨ka, cap, rfl, hz, hks⟩ := hv
  obtain ⟨W1, hW1⟩ : ∃ W1, W1 = W.alloc (.cells #[.int .i64 x.kind, .string x.text, .int .i64 x.n, .string x.name, .slice ka x.kids.length cap] 25) := ⟨_, rfl⟩
  have kA : Kept Nix W W1 := by rw [hW1]; exact (Kept.refl _ _).alloc _
  have BX : Box5 W.heap.size (.int .i64 x.kind) (.string x.text) (.int .i64 x.n) (.string x.name) (.slice ka x.kids.length cap) W1 := by rw [hW1]; exact Box5.new ..
  have hSW : Safe S Nix W.heap.size := hS.mono hk.size
  have hp : PatAt W1 (fun b => S b ∨ b = W.heap.size) W.heap.size 0 x := by
    have h1 := hks.to kA hSW (fun b hb => (.inl hb : S b ∨ b = W.heap.size))
    obtain ⟨k, t, n, nm, kids⟩ := x
    unfold PatAt
    exact ⟨.inr rfl, hz, BX.h0, BX.h1, BX.h2, BX.h3, ka, cap, BX.h4, h1⟩
  have x0 := (hC.kept (hk.trans kA) (fun h => h)).cell
  have HC := Lib.hid (hall x hx (fun b => S b ∨ b = W.heap.size) W.heap.size 0 W1 hp (fun b hb => by
    rcases hb with hb | rfl
    · exact ⟨Nat.lt_of_lt_of_le (hSW b hb).1 kA.size, fun h => h⟩
    · exact ⟨BX.lt, fun h => h⟩) ((hM.kept hk (fun h => h)).kept kA (fun h => h)))
  have KA := Lib.hid kA; have HW1 := Lib.hid hW1
  clear hp BX kA hW1 hks hz hC hM hS hSW hk hall
  show Calls Try.prog 44 #[_, .pointer (some ⟨C, 0, none⟩)] W _
  go_enter Try.func44, Try.ntmps44
  go_upto_region 1 with fail
  rw [← HW1.out]
  clear HW1
  go_wp2_with (go_at_call 21; (refine HC.out.mono ?_); rintro e w2 ⟨rfl, k2_⟩; have K2 := Lib.hid (KA.out.trans k2_); clear k2_)
  go_ret
  exact ⟨rfl, K2.out⟩
set_option maxRecDepth 100000 in
theorem empty2_any (mF : ByteArray → Option Int) (MB n1 C : Nat) (l : List PatT) (S : Nat → Prop) (w : World) (hall : ∀ x ∈ l, EmpOk mF MB n1 x) (hC : Cel w C 48 (.map (some MB))) (hM : MapF w MB n1 mF) (hS : Safe S Nix w.heap.size) :
    PredP S 45 #[.pointer (some ⟨C, 0, none⟩)] l (fun x => emptyF (mB mF) x) w := by
  intro W v x hx hk hv
  obtain ⟨ka, cap, rfl, hz, hks⟩ := hv
  obtain ⟨W1, hW1⟩ : ∃ W1, W1 = W.alloc (.cells #[.int .i64 x.kind, .string x.text, .int .i64 x.n, .string x.name, .slice ka x.kids.length cap] 25) := ⟨_, rfl⟩
  have kA : Kept Nix W W1 := by rw [hW1]; exact (Kept.refl _ _).alloc _
  have BX : Box5 W.heap.size (.int .i64 x.kind) (.string x.text) (.int .i64 x.n) (.string x.name) (.slice ka x.kids.length cap) W1 := by rw [hW1]; exact Box5.new ..
  have hSW : Safe S Nix W.heap.size := hS.mono hk.size
  have hp : PatAt W1 (fun b => S b ∨ b = W.heap.size) W.heap.size 0 x := by
    have h1 := hks.to kA hSW (fun b hb => (.inl hb : S b ∨ b = W.heap.size))
    obtain ⟨k, t, n, nm, kids⟩ := x
    unfold PatAt
    exact ⟨.inr rfl, hz, BX.h0, BX.h1, BX.h2, BX.h3, ka, cap, BX.h4, h1⟩
  have x0 := (hC.kept (hk.trans kA) (fun h => h)).cell
  have HC := Lib.hid (hall x hx (fun b => S b ∨ b = W.heap.size) W.heap.size 0 W1 hp (fun b hb => by
    rcases hb with hb | rfl
    · exact ⟨Nat.lt_of_lt_of_le (hSW b hb).1 kA.size, fun h => h⟩
    · exact ⟨BX.lt, fun h => h⟩) ((hM.kept hk (fun h => h)).kept kA (fun h => h)))
  have KA := Lib.hid kA; have HW1 := Lib.hid hW1
  clear hp BX kA hW1 hks hz hC hM hS hSW hk hall
  show Calls Try.prog 45 #[_, .pointer (some ⟨C, 0, none⟩)] W _
  go_enter Try.func45, Try.ntmps45
  go_upto_region 1 with fail
  rw [← HW1.out]
  clear HW1
  go_wp2_with (go_at_call 21; (refine HC.out.mono ?_); rintro e w2 ⟨rfl, k2_⟩; have K2 := Lib.hid (KA.out.trans k2_); clear k2_)
  go_ret
  exact ⟨rfl, K2.out⟩
set_option maxRecDepth 100000 in
set_option maxHeartbeats 4000000 in
theorem empty_any (mF : ByteArray → Option Int) (MB n1 : Nat) : ∀ (m : Nat) (p : PatT), sizeT p ≤ m → KidsOk p → EmpOk mF MB n1 p := by
  intro m
  induction m with
  | zero => intro p hm; have := sizeT_pos p; omega
  | succ m ih =>
  intro p hm hko S b o w hp hS hM
  obtain ⟨k, t, n, nm, kids⟩ := p
  have hih : ∀ (j : Nat) (hj : j < kids.length), EmpOk mF MB n1 kids[j] := fun j hj => ih kids[j] (by have := sizeT_get kids j hj; simp only [sizeT] at hm; omega) (hko.get j hj)
  have hall : ∀ x ∈ kids, EmpOk mF MB n1 x := fun x hx => by
    obtain ⟨j, hj, rfl⟩ := List.mem_iff_getElem.1 hx
    exact hih j hj
  have hko0 : Hid (k = 21 ∨ k = 22 → 0 < kids.length) := hko (.mk k t n nm kids) (by rw [allT]; exact List.mem_cons_self ..)
  obtain ⟨w1, hw1⟩ : ∃ w1, w1 = w.alloc (.cells #[.map (some MB)] 48) := ⟨_, rfl⟩
  have k1 : Kept Nix w w1 := by rw [hw1]; exact (Kept.refl _ _).alloc _
  obtain ⟨C, hCd⟩ : ∃ C, C = w.heap.size := ⟨_, rfl⟩
  have CC : Hid (Cel w1 C 48 (.map (some MB))) := by rw [hw1, hCd]; exact Cel.new _ _ _
  have hp1 := hp.kept k1 hS
  unfold PatAt at hp1
  obtain ⟨_, ⟨_, hnz, hkl⟩, p0, p1, p2, p3, ka, cap, p4, hks⟩ := hp1
  have HKS := Lib.hid hks; have S1 := Lib.hid (hS.mono k1.size); have M1 := Lib.hid (hM.kept k1 (fun h => h)); have K1 := Lib.hid k1; have HIH := Lib.hid hih; have HALL := Lib.hid hall; have HW1 := Lib.hid hw1; have HCd := Lib.hid hCd
  have hnl : nm.size ≤ maxLen := by unfold maxLen; omega
  have m0 := CC.out.cell
  clear hih ih hall hko hm hks hp hS hM k1 hw1 hCd
  by_cases h1 : k = 1
  · subst h1
    have fin : Hid (emptyF (mB mF) (.mk 1 t n nm kids) = t.toList.isEmpty) := by
      unfold Hid; rw [emptyF, if_pos rfl, Bool.eq_iff_iff, decide_eq_true_eq, isEmpty_size]
    go_enter Try.func21, Try.ntmps21
    go_upto_region 1 with fail
    rw [← HW1.out, ← HCd.out]
    clear HW1
    go_wp2_with fail
    go_ret
    exact ⟨by rw [fin.out]; try rfl, K1.out⟩
  by_cases h2 : k = 2
  · subst h2
    have fin : Hid (emptyF (mB mF) (.mk 2 t n nm kids) = (n == 0)) := by
      unfold Hid; rw [emptyF, if_neg (by decide), if_pos rfl, Bool.eq_iff_iff]; simp
    go_enter Try.func21, Try.ntmps21
    go_upto_region 1 with fail
    rw [← HW1.out, ← HCd.out]
    clear HW1
    go_wp2_with fail
    go_ret
    exact ⟨by rw [fin.out]; try rfl, K1.out⟩
  by_cases h3 : k = 3 ∨ k = 4 ∨ k = 5 ∨ k = 14 ∨ k = 15 ∨ k = 17
  · have fin : Hid (emptyF (mB mF) (.mk k t n nm kids) = false) := by unfold Hid; rw [emptyF, if_neg h1, if_neg h2, if_pos h3]
    clear h1 h2
    rcases h3 with rfl | rfl | rfl | rfl | rfl | rfl
    all_goals
      go_enter Try.func21, Try.ntmps21
      go_upto_region 1 with fail
      rw [← HW1.out, ← HCd.out]
      clear HW1
      go_wp2_with fail
      go_ret
      exact ⟨by rw [fin.out]; try rfl, K1.out⟩
  by_cases h24 : k = 24
  · subst h24
    have fin : Hid (emptyF (mB mF) (.mk 24 t n nm kids) = ((mF nm).getD 0 == 1)) := by
      unfold Hid; rw [emptyF]; simp [mB]; rw [Bool.eq_iff_iff]; simp
    have hlook : ∀ i, (Instr.lookup 48 (.map (some MB)) (.string nm) false).run Try.prog (w1.drewN i) = .ok (.int .i64 ((mF nm).getD 0)) (w1.drewN i) := fun i => (M1.out.kept ((Kept.refl Nix w1).drewN i) (fun h => h)).look nm hnl
    clear h1 h2 h3
    go_enter Try.func21, Try.ntmps21
    go_upto_region 1 with fail
    rw [← HW1.out, ← HCd.out]
    clear HW1
    go_wp2_with fail
    go_quiet (fail)
    go_wp2_with fail
    go_ret
    exact ⟨by rw [fin.out]; try rfl, K1.out.drewN _⟩
  by_cases h21 : k = 21 ∨ k = 22
  · have hpos := hko0.out h21
    have hks1 := HKS.out
    obtain ⟨bb, oo, rfl⟩ := PatsAt_head hks1 hpos
    have hk0 := PatsAt_get kids bb oo 0 hpos hks1
    rw [Nat.zero_mul, Nat.add_zero] at hk0
    have fin : Hid (emptyF (mB mF) (.mk k t n nm kids) = emptyF (mB mF) kids[0]) := by
      unfold Hid; rw [emptyF, if_neg h1, if_neg h2, if_neg h3, if_neg h24, if_pos h21]
      cases kids with
      | nil => simp at hpos
      | cons y r => rw [emptyHd]; rfl
    have HC := Lib.hid (HIH.out 0 hpos S bb oo w1.drew (hk0.kept (Kept.refl Nix w1).drew S1.out) (S1.out.mono (Kept.refl Nix w1).drew.size) (M1.out.kept (Kept.refl Nix w1).drew (fun h => h)))
    generalize kids[0] = y at *
    clear h1 h2 h3 h24 hks1 hk0
    rcases h21 with rfl | rfl
    all_goals
      go_enter Try.func21, Try.ntmps21
      go_upto_region 1 with fail
      rw [← HW1.out, ← HCd.out]
      clear HW1
      go_wp2_with fail
      go_region_with (go_at_call 21; (refine HC.out.mono ?_); rintro e w2 ⟨rfl, k2_⟩; have K2 := Lib.hid ((K1.out.drew).trans k2_); clear k2_)
      all_goals
        go_wp2_with fail
        go_ret
        exact ⟨by rw [fin.out]; try rfl, K2.out⟩
  have eg1 : ∀ args wy, (callFunc 44 args).run Try.prog wy = .ok (.enter 44 args) wy := fun _ _ => by kernel_rfl
  have eg2 : ∀ args wy, (callFunc 45 args).run Try.prog wy = .ok (.enter 45 args) wy := fun _ _ => by kernel_rfl
  have hmf : ∀ (fn : Fn) (first cap : Array Value) (w : World), (Instr.makeFunc fn first cap).run Try.prog w = .ok (.func fn first cap) w := fun _ _ _ _ => rfl
  by_cases h18 : k = 18
  · subst h18
    have fin : Hid (emptyF (mB mF) (.mk 18 t n nm kids) = !(kids.any fun x => !emptyF (mB mF) x)) := by unfold Hid; rw [← emptyAll_any, emptyF]; simp
    have HC := Lib.hid (hasP_any 44 #[.pointer (some ⟨C, 0, none⟩)] (fun x => !emptyF (mB mF) x) eg1 S kids ka cap w1 HKS.out S1.out (by omega) (empty1_any mF MB n1 C kids S w1 HALL.out CC.out M1.out S1.out))
    generalize (kids.any fun x => !emptyF (mB mF) x) = rs at *
    clear h1 h2 h3 h24 h21 eg1 eg2
    go_enter Try.func21, Try.ntmps21
    go_upto_region 1 with fail
    rw [← HW1.out, ← HCd.out]
    clear HW1
    go_wp2_with (go_at_call 43; (refine HC.out.mono ?_); rintro e w2 ⟨rfl, k2_⟩; have K2 := Lib.hid (K1.out.trans k2_); clear k2_)
    go_ret
    exact ⟨by rw [fin.out]; try rfl, K2.out⟩
  by_cases h19 : k = 19
  · subst h19
    have fin : Hid (emptyF (mB mF) (.mk 19 t n nm kids) = kids.any fun x => emptyF (mB mF) x) := by unfold Hid; rw [← emptyAny_any, emptyF]; simp
    have HC := Lib.hid (hasP_any 45 #[.pointer (some ⟨C, 0, none⟩)] (fun x => emptyF (mB mF) x) eg2 S kids ka cap w1 HKS.out S1.out (by omega) (empty2_any mF MB n1 C kids S w1 HALL.out CC.out M1.out S1.out))
    generalize (kids.any fun x => emptyF (mB mF) x) = rs at *
    clear h1 h2 h3 h24 h21 h18 eg1 eg2
    go_enter Try.func21, Try.ntmps21
    go_upto_region 1 with fail
    rw [← HW1.out, ← HCd.out]
    clear HW1
    go_wp2_with (go_at_call 43; (refine HC.out.mono ?_); rintro e w2 ⟨rfl, k2_⟩; have K2 := Lib.hid (K1.out.trans k2_); clear k2_)
    go_ret
    exact ⟨by rw [fin.out]; try rfl, K2.out⟩
  have fin : Hid (emptyF (mB mF) (.mk k t n nm kids) = true) := emptyF_else _ ⟨h1, h2, fun h => h3 (by simp [h]), fun h => h3 (by simp [h]), fun h => h3 (by simp [h]), fun h => h3 (by simp [h]), fun h => h3 (by simp [h]), fun h => h3 (by simp [h]), h24, fun h => h21 (.inl h), fun h => h21 (.inr h), h18, h19⟩
  have z1 : (k == 1) = false := by simpa using h1
  have z2 : (k == 2) = false := by simpa using h2
  have z3 : (k == 3) = false := by simp; omega
  have z4 : (k == 4) = false := by simp; omega
  have z5 : (k == 5) = false := by simp; omega
  have z14 : (k == 14) = false := by simp; omega
  have z15 : (k == 15) = false := by simp; omega
  have z17 : (k == 17) = false := by simp; omega
  have z24 : (k == 24) = false := by simpa using h24
  have z21 : (k == 21) = false := by simp; omega
  have z22 : (k == 22) = false := by simp; omega
  have z18 : (k == 18) = false := by simpa using h18
  have z19 : (k == 19) = false := by simpa using h19
  clear h1 h2 h3 h24 h21 h18 h19 eg1 eg2
  go_enter Try.func21, Try.ntmps21
  go_upto_region 1 with fail
  rw [← HW1.out, ← HCd.out]
  clear HW1
  go_wp2_with fail
  go_ret
  exact ⟨by rw [fin.out]; try rfl, K1.out⟩
end Go.Proofs.Ytdkpdomggbiolaa
