/- gram.begins: the names that a pattern begins with. -/
import Derived.Test.YtdkpdomggbiolaaEmp
namespace Go.Proofs.Ytdkpdomggbiolaa
set_option linter.all false
open Go.RowKit

theorem hasOwn_any {B : Nat} {v : Value} {L : List ByteArray} (x : ByteArray) (w : World) (h : OwnS w B v L) (hl : L.length ≤ 400000000) : Calls Try.prog 14 #[v, .string x] w (fun e w' => e = .returned (.bool (decide (x ∈ L))) ∧ w' = w) := by
  by_cases h0 : 0 < L.length
  · obtain ⟨g, c, rfl, _, _, hc⟩ := h.cells h0
    refine (Try.slices_Contains_string g 0 L.length c L x w (Nat.le_refl _) (by omega) (fun j hj => by rw [hc j hj, List.getD_eq_getElem?_getD, List.getElem?_eq_getElem hj]; rfl)).mono ?_
    rintro e w' ⟨rfl, rfl⟩
    exact ⟨by rw [hasG], rfl⟩
  · obtain rfl : L = [] := List.eq_nil_of_length_eq_zero (by omega)
    obtain ⟨a, c, rfl⟩ := h.shape
    refine (Try.slices_Contains_string_empty a c x w).mono ?_
    rintro e w' ⟨rfl, rfl⟩
    exact ⟨by simp, rfl⟩
mutual
theorem beginsF_len (m : ByteArray → Bool) : ∀ (p : PatT) (out : List ByteArray), (beginsF m p out).length ≤ out.length + sizeT p
  | .mk k t n nm kids, out => by
    have := beginsL_len m (decide (k = 18)) kids out
    rw [beginsF, sizeT]
    split
    · simp only [List.length_append, List.length_singleton]; omega
    · omega
theorem beginsL_len (m : ByteArray → Bool) (cat : Bool) : ∀ (q : List PatT) (out : List ByteArray), (beginsL m cat q out).length ≤ out.length + sizeL q
  | [], out => by rw [beginsL]; omega
  | x :: q, out => by
    have h1 := beginsF_len m x out; have h2 := beginsL_len m cat q (beginsF m x out)
    rw [beginsL, sizeL]
    split <;> omega
end
theorem beginsL_drop (m : ByteArray → Bool) (cat : Bool) (q : List PatT) (j : Nat) (h : j < q.length) (out : List ByteArray) : beginsL m cat (q.drop j) out = if (cat && !emptyF m q[j]) = true then beginsF m q[j] out else beginsL m cat (q.drop (j + 1)) (beginsF m q[j] out) := by
  rw [List.drop_eq_getElem_cons h, beginsL]
def BgnQ (B : Nat) (ys : List ByteArray) (w : World) (e : Ending) (w' : World) : Prop := ∃ v, e = .returned v ∧ OwnS w' B v ys ∧ Kept (fun b => B ≤ b) w w'

set_option maxRecDepth 100000 in
set_option maxHeartbeats 4000000 in
theorem begins_any (mF : ByteArray → Option Int) (MB n1 B : Nat) (hMB : MB < B) (S : Nat → Prop) : ∀ (m : Nat) (p : PatT) (b o : Nat) (out : List ByteArray) (v : Value) (w : World), sizeT p ≤ m → PatAt w S b o p → Safe S (fun b => B ≤ b) w.heap.size → B ≤ w.heap.size → KidsOk p → MapF w MB n1 mF → OwnS w B v out → out.length + sizeT p ≤ 400000000 →
    Calls Try.prog 22 #[.pointer (some ⟨b, o, none⟩), .map (some MB), v] w (BgnQ B (beginsF (mB mF) p out) w) := by
  intro m
  induction m with
  | zero => intro p b o out v w hm; have := sizeT_pos p; omega
  | succ m ih =>
  intro p b o out v w hm hp hS hB hko hM hv hlen
  obtain ⟨k, t, n, nm, kids⟩ := p
  have hih : ∀ (j : Nat) (hj : j < kids.length) (b o : Nat) (out : List ByteArray) (v : Value) (w : World), PatAt w S b o kids[j] → Safe S (fun b => B ≤ b) w.heap.size → B ≤ w.heap.size → MapF w MB n1 mF → OwnS w B v out → out.length + sizeT kids[j] ≤ 400000000 →
      Calls Try.prog 22 #[.pointer (some ⟨b, o, none⟩), .map (some MB), v] w (BgnQ B (beginsF (mB mF) kids[j] out) w) :=
    fun j hj b o out v w h1 h2 h3 h4 h5 h6 => ih kids[j] b o out v w (by have := sizeT_get kids j hj; simp only [sizeT] at hm; omega) h1 h2 h3 (hko.get j hj) h4 h5 h6
  have hemp : ∀ (j : Nat) (hj : j < kids.length), EmpOk mF MB n1 kids[j] := fun j hj => empty_any mF MB n1 _ kids[j] (Nat.le_refl _) (hko.get j hj)
  have HP := Lib.hid hp
  have hszL : Hid (out.length + 1 + sizeL kids ≤ 400000000) := by rw [sizeT] at hlen; unfold Hid; omega
  unfold PatAt at hp
  obtain ⟨_, ⟨_, hnz, hkl⟩, q0, _, _, q3, ka, cap, q4, _⟩ := hp
  obtain ⟨i0, hi0, hz0, hz1, hz2⟩ := info_parts Try.infoS
  obtain ⟨va, vc, rfl⟩ := hv.shape
  have HIH := Lib.hid hih; have HEMP := Lib.hid hemp; have HS := Lib.hid hS; have HV := Lib.hid hv; have HM := Lib.hid hM
  have hlen2 : out.length ≤ 400000000 := by omega
  clear hih hemp ih hm hS hv hko hM hlen
  go_enter Try.func22, Try.ntmps22
  go_upto_region 1 with fail
  go_cut [21] (fun c wx => c = .bool (decide (k = 24 ∧ nm ∉ out)) ∧ w = wx)
  case first =>
    by_cases h24 : k = 24
    · have z1 : (k == 24) = true := by simpa using h24
      by_cases hin : nm ∈ out
      · have fin : Hid (decide (k = 24 ∧ nm ∉ out) = false) := decide_eq_false (fun h => h.2 hin)
        have HD : Hid (decide (nm ∈ out) = true) := decide_eq_true hin
        clear h24 hin
        go_wp2_with (go_at_call 14; refine (hasOwn_any nm w HV.out hlen2).mono ?_; rintro e w' ⟨rfl, hw_⟩; obtain rfl := hw_.symm; rw [HD.out])
        go_meet
        exact ⟨by rw [fin.out], rfl⟩
      · have fin : Hid (decide (k = 24 ∧ nm ∉ out) = true) := decide_eq_true ⟨h24, hin⟩
        have HD : Hid (decide (nm ∈ out) = false) := decide_eq_false hin
        clear h24 hin
        go_wp2_with (go_at_call 14; refine (hasOwn_any nm w HV.out hlen2).mono ?_; rintro e w' ⟨rfl, hw_⟩; obtain rfl := hw_.symm; rw [HD.out])
        go_meet
        exact ⟨by rw [fin.out], rfl⟩
    · have z1 : (k == 24) = false := by simpa using h24
      have fin : Hid (decide (k = 24 ∧ nm ∉ out) = false) := decide_eq_false (fun h => h24 h.1)
      clear h24
      go_wp2_with fail
      go_meet
      exact ⟨by rw [fin.out], rfl⟩
  case rest =>
    obtain ⟨rfl, rfl⟩ := hcut
    by_cases hd : k = 24 ∧ nm ∉ out
    · have fin : Hid (beginsF (mB mF) (.mk k t n nm kids) out = out ++ [nm]) := by unfold Hid; rw [beginsF, if_pos hd]
      rw [decide_eq_true hd]
      clear hd
      go_wp2_with (at_builtin; go_loud (refine wpList_append_lies _ rfl (.tmp 22) (.tmp 27) 26 rfl B 9 i0 (.string ⟨#[]⟩) 1 16 Try.underlying26 hi0 hz0 hz1 hz2 rfl (by decide) _ out.length (out.map Value.string) rfl (World.ownsRow.alloc HV.out _) ⟨w.heap.size, 0, none⟩ 1 1 [.string nm] rfl rfl (cell_one_new _ _ _) (by intro u hu; simp at hu; subst hu; rfl) (by decide) (by unfold maxLen; omega) (by omega) (by simp; omega) (w.heap.size + 1) (by simp) ?_); intro g3 c3 w9 own9 grow9 _ _; have OWN := Lib.hid own9; have K9 : Hid (Kept (fun b => B ≤ b) w w9) := ((Kept.refl _ w).alloc _).grown grow9 (fun kk hk => .inl (World.ownsRow.lt HV.out kk hk).1); clear own9 grow9)
      go_ret
      rw [fin.out]
      exact ⟨_, rfl, by unfold OwnS; simpa using OWN.out, K9.out⟩
    have hmain : Hid (beginsF (mB mF) (.mk k t n nm kids) out = beginsL (mB mF) (decide (k = 18)) kids out) := by unfold Hid; rw [beginsF, if_neg hd]
    rw [decide_eq_false hd]
    clear hd
    go_wp2_with fail
    go_loopw [2, 34] (fun vv i wr => ∃ (j : Nat) (ys : List ByteArray), j ≤ kids.length ∧ i = .int .i64 j ∧ Hid (beginsL (mB mF) (decide (k = 18)) kids out = beginsL (mB mF) (decide (k = 18)) (kids.drop j) ys) ∧ OwnS wr B vv ys ∧ ys.length + sizeL (kids.drop j) ≤ 400000000 ∧ Kept (fun b => B ≤ b) w wr) (fun _ i _ => kids.length - (intOf i).toNat)
    case atStart => exact ⟨0, out, Nat.zero_le _, rfl, by unfold Hid; rw [List.drop_zero], HV.out, by rw [List.drop_zero]; have := hszL.out; omega, Kept.refl _ _⟩
    case round =>
      obtain ⟨j, ys, hj, rfl, hno, hO, hbd, hkw⟩ := hrel
      have HO := Lib.hid hO; have KW := Lib.hid hkw
      obtain ⟨ya, yc, rfl⟩ := hO.shape
      by_cases hlt : j < kids.length
      · have hp2 := HP.out.kept hkw HS.out
        unfold PatAt at hp2
        obtain ⟨_, _, r0, _, _, _, ka2, cap2, r4, hks⟩ := hp2
        obtain ⟨b1, o1, rfl⟩ := PatsAt_head hks (by omega)
        have HKD := Lib.hid (PatsAt_get kids b1 o1 j hlt hks)
        have hd := beginsL_drop (mB mF) (decide (k = 18)) kids j hlt ys
        have hsd := sizeL_drop kids j hlt
        have hfl := beginsF_len (mB mF) kids[j] ys
        have S2 := Lib.hid (HS.out.mono hkw.size)
        have hB2 : B ≤ wr.heap.size := Nat.le_trans hB hkw.size
        have HC := Lib.hid (HIH.out j hlt b1 (o1 + j * 5) ys _ wr HKD.out S2.out hB2 (HM.out.kept hkw (by omega)) HO.out (by omega))
        have hbd2 : Hid ((beginsF (mB mF) kids[j] ys).length + sizeL (kids.drop (j + 1)) ≤ 400000000) := by unfold Hid; omega
        have HEJ := Lib.hid (HEMP.out j hlt)
        generalize hy : kids[j] = y at *
        have HY := Lib.hid hy
        have HD := Lib.hid hd
        clear hy hd
        generalize beginsF (mB mF) y ys = zs at *
        clear hO hbd hkw hks hsd hfl
        go_upto_region 7 with fail
        refine HC.out.mono ?_
        rintro e w3 ⟨v3, rfl, hO3, k3_⟩
        have O3 := Lib.hid hO3; have K3 := Lib.hid (KW.out.trans k3_)
        obtain ⟨za, zc, rfl⟩ := hO3.shape
        have hp3 := HP.out.kept K3.out HS.out
        unfold PatAt at hp3
        obtain ⟨_, _, s0, _, _, _, ka3, cap3, s4, hks3⟩ := hp3
        have HKY := HKD.out.kept k3_ S2.out
        obtain ⟨b2, o2, rfl⟩ := PatsAt_head hks3 (by omega)
        have HK2 : Hid (PatAt w3 S b2 (o2 + j * 5) y) := by have h := PatsAt_get kids b2 o2 j hlt hks3; rw [HY.out] at h; exact h
        have M3 := Lib.hid (HM.out.kept K3.out (by omega))
        clear hO3 k3_ hks3 HKY
        by_cases h18 : k = 18
        · have z1 : (k == 18) = true := by simpa using h18
          have zd : decide (k = 18) = true := by simpa using h18
          have HE := Lib.hid (HEJ.out S b2 (o2 + j * 5) w3 HK2.out (fun b hb => ⟨((HS.out.mono K3.out.size) b hb).1, fun h => h⟩) M3.out)
          cases hem : emptyF (mB mF) y with
          | true =>
            have fin : Hid (beginsL (mB mF) (decide (k = 18)) kids out = beginsL (mB mF) (decide (k = 18)) (kids.drop (j + 1)) zs) := by
              unfold Hid; rw [hno.out, HD.out, if_neg (by rw [hem]; simp)]
            rw [hem] at HE
            clear h18 zd hem
            go_wp2_with (go_at_call 21; (refine HE.out.mono ?_); rintro e w4 ⟨rfl, k4_⟩; have K4 := Lib.hid k4_; clear k4_)
            go_roundw
            case rel => exact ⟨j + 1, zs, by omega, by go_num, fin, (O3.out.kept K4.out (fun _ _ h => h)), hbd2.out, K3.out.trans (K4.out.more (fun _ h => h.elim))⟩
            case measure => simp [intOf]; omega
          | false =>
            have fin : Hid (beginsF (mB mF) (.mk k t n nm kids) out = zs) := by
              unfold Hid; rw [hmain.out, hno.out, HD.out, if_pos (by rw [hem, zd]; simp)]
            rw [hem] at HE
            clear h18 zd hem
            go_wp2_with (go_at_call 21; (refine HE.out.mono ?_); rintro e w4 ⟨rfl, k4_⟩; have K4 := Lib.hid k4_; clear k4_)
            go_ret
            rw [fin.out]
            exact ⟨_, rfl, O3.out.kept K4.out (fun _ _ h => h), K3.out.trans (K4.out.more (fun _ h => h.elim))⟩
        · have z1 : (k == 18) = false := by simpa using h18
          have zd : decide (k = 18) = false := by simpa using h18
          have fin : Hid (beginsL (mB mF) (decide (k = 18)) kids out = beginsL (mB mF) (decide (k = 18)) (kids.drop (j + 1)) zs) := by
            unfold Hid; rw [hno.out, HD.out, if_neg (by rw [zd]; simp)]
          clear h18 zd
          go_wp2_with fail
          go_roundw
          case rel => exact ⟨j + 1, zs, by omega, by go_num, fin, O3.out, hbd2.out, K3.out⟩
          case measure => simp [intOf]; omega
      · obtain rfl : j = kids.length := by omega
        have fin : Hid (beginsF (mB mF) (.mk k t n nm kids) out = ys) := by unfold Hid; rw [hmain.out, hno.out, List.drop_length, beginsL]
        go_wp2_with fail
        go_ret
        rw [fin.out]
        exact ⟨_, rfl, HO.out, KW.out⟩
end Go.Proofs.Ytdkpdomggbiolaa
