/- check.names: the functions that an expression calls. -/
import Derived.Test.YtkhhinmhgjicgaaCm1
namespace Go.Proofs.Ytkhhinmhgjicgaa
set_option linter.all false
open Go.RowKit

mutual
def namesT : PatT → List ByteArray
  | .mk k _ _ nm kids => (if k = 6 ∧ builtinF nm < 0 then [nm] else []) ++ namesL kids
def namesL : List PatT → List ByteArray
  | [] => []
  | x :: q => namesT x ++ namesL q
end
theorem namesL_drop (q : List PatT) (j : Nat) (h : j < q.length) : namesL (q.drop j) = namesT q[j] ++ namesL (q.drop (j + 1)) := by
  rw [List.drop_eq_getElem_cons h, namesL]
mutual
theorem namesT_len : ∀ x : PatT, (namesT x).length ≤ sizeT x
  | .mk k t n nm kids => by
    have := namesL_len kids
    rw [namesT, sizeT, List.length_append]
    split <;> simp <;> omega
theorem namesL_len : ∀ q : List PatT, (namesL q).length ≤ sizeL q
  | [] => by rw [namesL]; exact Nat.zero_le _
  | x :: q => by
    have := namesT_len x; have := namesL_len q
    rw [namesL, sizeL, List.length_append]; omega
end
def NamesQ (B : Nat) (ys : List ByteArray) (w : World) (e : Ending) (w' : World) : Prop := ∃ v, e = .returned v ∧ Ch w' B ys.length (ys.map Value.string) v ∧ Kept (fun b => B ≤ b) w w'

set_option maxRecDepth 100000 in
set_option maxHeartbeats 4000000 in
theorem names_any (B : Nat) (S : Nat → Prop) : ∀ (m : Nat) (x : PatT) (b o : Nat) (xs : List ByteArray) (v : Value) (w : World), sizeT x ≤ m → PatAt w S b o x → Safe S (fun b => B ≤ b) w.heap.size → B ≤ w.heap.size →
    Ch w B xs.length (xs.map Value.string) v → (xs ++ namesT x).length ≤ 4000000000 → Calls Try.prog 18 #[.pointer (some ⟨b, o, none⟩), v] w (NamesQ B (xs ++ namesT x) w) := by
  intro m
  induction m with
  | zero => intro x b o xs v w hm; have := sizeT_pos x; omega
  | succ m ih =>
  intro x b o xs v w hm hp hS hB hv hlen
  obtain ⟨k, t, n, nm, kids⟩ := x
  have hih : ∀ (j : Nat) (hj : j < kids.length) (b o : Nat) (xs : List ByteArray) (v : Value) (w : World), PatAt w S b o kids[j] → Safe S (fun b => B ≤ b) w.heap.size → B ≤ w.heap.size → Ch w B xs.length (xs.map Value.string) v → (xs ++ namesT kids[j]).length ≤ 4000000000 →
      Calls Try.prog 18 #[.pointer (some ⟨b, o, none⟩), v] w (NamesQ B (xs ++ namesT kids[j]) w) :=
    fun j hj b o xs v w h1 h2 h3 h4 h5 => ih kids[j] b o xs v w (by have := sizeT_get kids j hj; simp only [sizeT] at hm; omega) h1 h2 h3 h4 h5
  have HP := Lib.hid hp
  unfold PatAt at hp
  obtain ⟨_, ⟨_, hnz, hkl⟩, q0, _, _, q3, ka, cap, q4, _⟩ := hp
  have HIH := Lib.hid hih; have HS := Lib.hid hS; have HV := Lib.hid hv; have HLEN := Lib.hid hlen
  obtain ⟨i0, hi0, hz0, hz1, hz2⟩ := info_parts infoStr
  obtain ⟨own0, hown⟩ : ∃ own0, own0 = (if k = 6 ∧ builtinF nm < 0 then [nm] else []) := ⟨_, rfl⟩
  have hnm : Hid (xs ++ namesT (.mk k t n nm kids) = (xs ++ own0) ++ namesL kids) := by unfold Hid; rw [namesT, hown, List.append_assoc]
  obtain ⟨va, vc, rfl, hW⟩ := hv
  have WV := Lib.hid hW
  clear hih ih hm hS hW hlen
  go_enter Try.func18, Try.ntmps18
  go_upto_region 1 with fail
  go_cut [18] (fun c wx => c = .bool (decide (k = 6 ∧ builtinF nm < 0)) ∧ w = wx)
  case first =>
    by_cases h6 : k = 6
    · have z1 : (k == 6) = true := by simpa using h6
      by_cases hb : builtinF nm < 0
      · have e1 : decide (builtinF nm < 0) = true := decide_eq_true hb
        have fin : Hid (decide (k = 6 ∧ builtinF nm < 0) = true) := decide_eq_true ⟨h6, hb⟩
        clear h6 hb hown
        go_wp2_with (go_at_call 7; refine (builtin_any nm w).mono ?_; rintro e w' ⟨rfl, hw_⟩; obtain rfl := hw_.symm)
        go_meet
        exact ⟨by rw [fin.out], rfl⟩
      · have e1 : decide (builtinF nm < 0) = false := decide_eq_false hb
        have fin : Hid (decide (k = 6 ∧ builtinF nm < 0) = false) := decide_eq_false (fun h => hb h.2)
        clear h6 hb hown
        go_wp2_with (go_at_call 7; refine (builtin_any nm w).mono ?_; rintro e w' ⟨rfl, hw_⟩; obtain rfl := hw_.symm)
        go_meet
        exact ⟨by rw [fin.out], rfl⟩
    · have z1 : (k == 6) = false := by simpa using h6
      have fin : Hid (decide (k = 6 ∧ builtinF nm < 0) = false) := decide_eq_false (fun h => h6 h.1)
      clear h6 hown
      go_wp2_with fail
      go_meet
      exact ⟨by rw [fin.out], rfl⟩
  case rest =>
    obtain ⟨rfl, rfl⟩ := hcut
    go_upto_if 18 with fail
    go_cut [1, 18] (fun c _ wx => Ch wx B (xs ++ own0).length ((xs ++ own0).map Value.string) c ∧ Kept (fun b => B ≤ b) w wx)
    case first =>
      by_cases hd : k = 6 ∧ builtinF nm < 0
      · have e1 : decide (k = 6 ∧ builtinF nm < 0) = true := decide_eq_true hd
        rw [if_pos hd] at hown
        have hO := Lib.hid hown
        have hsz : xs.length + 1 ≤ 4000000000 := by have := HLEN.out; rw [hnm.out, hown] at this; simp at this; omega
        rw [e1]
        clear hd hown
        go_wp2_with (at_builtin; go_loud (refine wpList_append_win _ rfl (.tmp 19) (.tmp 24) 39 39 rfl B 9 i0 (.string ⟨#[]⟩) 1 16 Try.underlying39 hi0 hz0 hz1 hz2 rfl _ xs.length (xs.map Value.string) rfl (WV.out.alloc _) _ 1 [.string nm] rfl (row_src (heap_alloc_new w _)) (by unfold maxLen; omega) (by omega) (by simp; omega) ?_); intro a5 c5 w5 hW5 hg5 _; have W5 := Lib.hid hW5; have K5 : Hid (Kept (fun b => B ≤ b) w w5) := ((Kept.refl _ w).alloc _).grown hg5 fun k hk => .inl (WV.out.lt k hk).1; clear hW5 hg5)
        go_meet
        rw [hO.out]
        exact ⟨⟨a5, c5, by simp, by simpa using W5.out⟩, K5.out⟩
      · have e1 : decide (k = 6 ∧ builtinF nm < 0) = false := decide_eq_false hd
        rw [if_neg hd, ] at hown
        have hO := Lib.hid hown
        rw [e1]
        clear hd hown
        go_wp2_with fail
        go_meet
        rw [hO.out, List.append_nil]
        exact ⟨HV.out, Kept.refl _ _⟩
    case rest =>
      obtain ⟨hC1, hk1⟩ := hcut
      obtain ⟨w1, hw1⟩ : ∃ x, x = wc := ⟨_, rfl⟩
      rw [← hw1] at hC1 hk1 ⊢
      clear hw1
      have hp1 := HP.out.kept hk1 HS.out
      unfold PatAt at hp1
      obtain ⟨_, _, _, _, _, _, ka1, cap1, q41, _⟩ := hp1
      have K1 := Lib.hid hk1; have C1 := Lib.hid hC1
      obtain ⟨a1, c1, rfl, _⟩ := hC1
      clear hk1 q0 q3 q4 hown
      go_wp2_with fail
      go_loopw [31, 1] (fun i v wr => ∃ (j : Nat) (ys : List ByteArray), j ≤ kids.length ∧ i = .int .i64 j ∧ Hid (xs ++ namesT (.mk k t n nm kids) = ys ++ namesL (kids.drop j)) ∧ Ch wr B ys.length (ys.map Value.string) v ∧ Kept (fun b => B ≤ b) w wr) (fun i _ _ => kids.length - (intOf i).toNat)
      case atStart => exact ⟨0, _, Nat.zero_le _, rfl, by unfold Hid; rw [List.drop_zero]; exact hnm.out, C1.out, K1.out⟩
      case round =>
        obtain ⟨j, ys, hj, rfl, hno, hC2, hkw⟩ := hrel
        have C2 := Lib.hid hC2; have KW := Lib.hid hkw
        obtain ⟨a2, c2, rfl, _⟩ := hC2
        by_cases hlt : j < kids.length
        · have hp2 := HP.out.kept hkw HS.out
          unfold PatAt at hp2
          obtain ⟨_, _, _, _, _, _, ka2, cap2, q42, hks⟩ := hp2
          obtain ⟨b1, o1, rfl⟩ := PatsAt_head hks (by omega)
          have HK2 := Lib.hid (PatsAt_get kids b1 o1 j hlt hks)
          have step := Lib.hid (hno.out.trans (by rw [namesL_drop kids j hlt, ← List.append_assoc]))
          have hl2 : (ys ++ namesT kids[j]).length ≤ 4000000000 := by
            have := HLEN.out; rw [step.out, List.length_append] at this; omega
          have S2 := Lib.hid (HS.out.mono hkw.size)
          have hB2 : B ≤ wr.heap.size := Nat.le_trans hB hkw.size
          clear hks hkw
          go_wp2_with fail
          refine (HIH.out j hlt b1 (o1 + j * 5) ys _ _ HK2.out S2.out hB2 C2.out hl2).mono ?_
          rintro e w3 ⟨v3, rfl, hC3, k3_⟩
          have C3 := Lib.hid hC3; have K3 := Lib.hid (KW.out.trans k3_)
          obtain ⟨a3, c3, rfl, _⟩ := hC3
          clear k3_
          go_wp2_with fail
          go_roundw
          case rel => exact ⟨j + 1, _, by omega, by go_num, step, by have h_ := C3.out; rw [List.length_append] at h_ ⊢; exact h_, K3.out⟩
          case measure => simp [intOf]; omega
        · obtain rfl : j = kids.length := by omega
          have fin : Hid (xs ++ namesT (.mk k t n nm kids) = ys) := by unfold Hid; rw [hno.out, List.drop_length, namesL, List.append_nil]
          go_wp2_with fail
          go_ret
          exact ⟨_, rfl, by rw [fin.out]; exact C2.out, KW.out⟩
end Go.Proofs.Ytkhhinmhgjicgaa
