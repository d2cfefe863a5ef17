/- The document's Begins: may a pattern come to a name without a byte ahead? -/
import Derived.Test.YtdkpdomggbiolaaNul
namespace Go.Proofs.Ytdkpdomggbiolaa
set_option linter.all false
open Go.RowKit

theorem begL_drop (m : ByteArray → Bool) (name : ByteArray) (cat : Bool) (q : List PatT) (j : Nat) (h : j < q.length) : begL m name cat (q.drop j) = (begM m name q[j] || (if (cat && !emptyF m q[j]) = true then false else begL m name cat (q.drop (j + 1)))) := by
  rw [List.drop_eq_getElem_cons h, begL]

set_option maxRecDepth 100000 in
set_option maxHeartbeats 4000000 in
theorem begins_doc (S : Nat → Prop) (L : List ByteArray) (hLU : L.length ≤ 70000000) (name : ByteArray) : ∀ (m : Nat) (p : PatT) (v nv : Value) (w : World), sizeT p ≤ m → PatV w S v p → Safe S Nix w.heap.size → KidsOk p → PutV w (fun b => b < w.heap.size) nv L →
    Calls Try.prog 27 #[v, .string name, nv] w (BoolQ (begM (mL L) name p) w) := by
  intro m
  induction m with
  | zero => intro p v nv w hm; have := sizeT_pos p; omega
  | succ m ih =>
  intro p v nv w hm hp hS hko hn
  obtain ⟨k, t, n, nm, kids⟩ := p
  have hih : ∀ (j : Nat) (hj : j < kids.length) (v nv : Value) (w : World), PatV w S v kids[j] → Safe S Nix w.heap.size → PutV w (fun b => b < w.heap.size) nv L → Calls Try.prog 27 #[v, .string name, nv] w (BoolQ (begM (mL L) name kids[j]) w) :=
    fun j hj v nv w h1 h2 h3 => ih kids[j] v nv w (by have := sizeT_get kids j hj; simp only [sizeT] at hm; omega) h1 h2 (hko.get j hj) h3
  have hnull : ∀ (j : Nat) (hj : j < kids.length) (v nv : Value) (w : World), PatV w S v kids[j] → Safe S Nix w.heap.size → PutV w (fun b => b < w.heap.size) nv L → Calls Try.prog 26 #[v, nv] w (BoolQ (emptyF (mL L) kids[j]) w) :=
    fun j hj v nv w h1 h2 h3 => null_any S L hLU m kids[j] v nv w (by have := sizeT_get kids j hj; simp only [sizeT] at hm; omega) h1 h2 (hko.get j hj) h3
  obtain ⟨ka, cap, rfl, hz, hks⟩ := hp
  dsimp only [PatT.kind_mk, PatT.text_mk, PatT.n_mk, PatT.name_mk, PatT.kids_mk] at hz hks ⊢
  obtain ⟨w1, hw1⟩ : ∃ w1, w1 = w.alloc (.cells #[.int .i64 k, .string t, .int .i64 n, .string nm, .slice ka kids.length cap] 25) := ⟨_, rfl⟩
  have B1 : Hid (Box5 w.heap.size (.int .i64 k) (.string t) (.int .i64 n) (.string nm) (.slice ka kids.length cap) w1) := by rw [hw1]; exact Box5.new ..
  have K1 : Hid (Kept Nix w w1) := by rw [hw1]; exact (Kept.refl _ _).alloc _
  have HKS := Lib.hid (hks.kept K1.out hS); have S1 := Lib.hid (hS.mono K1.out.size)
  obtain ⟨na, nc, rfl⟩ := hn.shape
  have HN := Lib.hid (hn.keep K1.out); have HIH := Lib.hid hih; have HNU := Lib.hid hnull; have HW1 := Lib.hid hw1
  have hkl := hz.2.2
  obtain ⟨b0, b1, b2, b3, b4⟩ : _ ∧ _ ∧ _ ∧ _ ∧ _ := ⟨B1.out.h0, B1.out.h1, B1.out.h2, B1.out.h3, B1.out.h4⟩
  obtain ⟨gP, hgP⟩ : ∃ g, g = w.heap.size := ⟨_, rfl⟩
  rw [← hgP] at B1 b0 b1 b2 b3 b4
  have HGP := Lib.hid hgP
  clear hih hnull ih hks hn hw1 hS hko hm hgP
  by_cases h24 : k = 24
  · have z1 : (k == 24) = true := by simpa using h24
    have fin : Hid (begM (mL L) name (.mk k t n nm kids) = (nm.toList == name.toList)) := by unfold Hid; rw [begM, if_pos h24, beqD]
    clear h24
    go_enter Try.func27, Try.ntmps27
    go_upto_region 1 with fail
    rw [← HW1.out, ← HGP.out]
    clear HW1
    go_wp2_with fail
    go_ret
    exact ⟨by rw [fin.out]; try rfl, K1.out⟩
  have z1 : (k == 24) = false := by simpa using h24
  have hmain : Hid (begM (mL L) name (.mk k t n nm kids) = begL (mL L) name (decide (k = 18)) kids) := by unfold Hid; rw [begM, if_neg h24]
  have z18 : Hid ((k == 18) = decide (k = 18)) := by unfold Hid; rw [Bool.eq_iff_iff]; simp
  clear h24
  go_enter Try.func27, Try.ntmps27
  go_upto_region 1 with fail
  rw [← HW1.out, ← HGP.out]
  clear HW1
  go_wp2_with fail
  go_loopw [19] (fun i wr => ∃ j : Nat, j ≤ kids.length ∧ i = .int .i64 j ∧ Hid (begL (mL L) name (decide (k = 18)) kids = begL (mL L) name (decide (k = 18)) (kids.drop j)) ∧ Kept Nix w1 wr) (fun i _ => kids.length - (intOf i).toNat)
  case atStart => exact ⟨0, Nat.zero_le _, rfl, by unfold Hid; rw [List.drop_zero], Kept.refl _ _⟩
  case round =>
    obtain ⟨j, hj, rfl, hno, hkw⟩ := hrel
    have KW := Lib.hid hkw
    clear b0 b1 b2 b3 b4
    by_cases hlt : j < kids.length
    · have hks2 := HKS.out.kept hkw S1.out
      obtain ⟨bb, oo, rfl⟩ := PatsAt_head hks2 (by omega)
      obtain ⟨_, hz2, p0, p1, p2, p3, ka2, cap2, p4, hk2⟩ := (PatsAt_get kids bb oo j hlt hks2).open
      have hd := begL_drop (mL L) name (decide (k = 18)) kids j hlt
      have SW := Lib.hid (S1.out.mono hkw.size)
      have HI := Lib.hid (HIH.out j hlt); have HU := Lib.hid (HNU.out j hlt)
      generalize kids[j] = y at *
      obtain ⟨w2, hw2⟩ : ∃ w2, w2 = wr.alloc (.cells #[.int .i64 y.kind, .string y.text, .int .i64 y.n, .string y.name, .slice ka2 y.kids.length cap2] 25) := ⟨_, rfl⟩
      have B2 : Hid (Box5 wr.heap.size (.int .i64 y.kind) (.string y.text) (.int .i64 y.n) (.string y.name) (.slice ka2 y.kids.length cap2) w2) := by rw [hw2]; exact Box5.new ..
      have kA : Kept Nix wr w2 := by rw [hw2]; exact (Kept.refl _ _).alloc _
      have HV : Hid (∀ wy, Kept Nix w2 wy → PatV wy S (.agg #[.int .i64 y.kind, .string y.text, .int .i64 y.n, .string y.name, .slice ka2 y.kids.length cap2]) y ∧ Safe S Nix wy.heap.size ∧ PutV wy (fun b => b < wy.heap.size) (.slice na L.length nc) L) := fun wy hk => ⟨⟨ka2, cap2, rfl, hz2, (hk2.kept kA SW.out).kept hk (SW.out.mono kA.size)⟩, (SW.out.mono kA.size).mono hk.size, ((HN.out.keep hkw).keep kA).keep hk⟩
      have HW2 := Lib.hid hw2
      have KA := Lib.hid (hkw.trans kA)
      have BP := Lib.hid (B1.out.kept KA.out (fun h => h))
      obtain ⟨gY, hgY⟩ : ∃ g, g = wr.heap.size := ⟨_, rfl⟩
      rw [← hgY] at B2
      have HGY := Lib.hid hgY
      clear hw2 hgY
      go_upto_region 6 with fail
      rw [← HW2.out, ← HGY.out]
      clear HW2 p0 p1 p2 p3 p4 hkw hks2 hk2 kA hz2
      obtain ⟨q0, q1, q2, q3, q4⟩ : _ ∧ _ ∧ _ ∧ _ ∧ _ := ⟨B2.out.h0, B2.out.h1, B2.out.h2, B2.out.h3, B2.out.h4⟩
      have HC := Lib.hid (HI.out _ (.slice na L.length nc) w2 (HV.out w2 (Kept.refl _ _)).1 (HV.out w2 (Kept.refl _ _)).2.1 (HV.out w2 (Kept.refl _ _)).2.2)
      cases hb : begM (mL L) name y with
      | true =>
        rw [hb, Bool.true_or] at hd
        have fin : Hid (begM (mL L) name (.mk k t n nm kids) = true) := hmain.out.trans (hno.out.trans hd)
        rw [hb] at HC
        clear hd hb hno
        go_wp2_with (go_at_call 27; (refine HC.out.mono ?_); rintro e w3 ⟨rfl, k3_⟩; have K3 := Lib.hid (K1.out.trans (KA.out.trans k3_)); clear k3_)
        go_ret
        exact ⟨by rw [fin.out]; try rfl, K3.out⟩
      | false =>
        rw [hb, Bool.false_or] at hd
        rw [hb] at HC
        clear hb
        by_cases h18 : k = 18
        · have y18 : (k == 18) = true := by simpa using h18
          have HNC : Hid (∀ wy, Kept Nix w2 wy → Calls Try.prog 26 #[.agg #[.int .i64 y.kind, .string y.text, .int .i64 y.n, .string y.name, .slice ka2 y.kids.length cap2], .slice na L.length nc] wy (BoolQ (emptyF (mL L) y) wy)) := fun wy hk => HU.out _ _ wy (HV.out wy hk).1 (HV.out wy hk).2.1 (HV.out wy hk).2.2
          cases he : emptyF (mL L) y with
          | true =>
            rw [if_neg (by rw [he]; simp)] at hd
            have step := Lib.hid (hno.out.trans hd)
            rw [he] at HNC
            clear hd he hno h18
            go_wp2_with (first
              | (go_at_call 27; (refine HC.out.mono ?_); rintro e w3 ⟨rfl, k3_⟩; have K3 := Lib.hid k3_; have B3 := BP.out.kept k3_ (fun h => h); have C3 := B2.out.kept k3_ (fun h => h); have r0 := B3.h0; have s0 := C3.h0; have s1 := C3.h1; have s2 := C3.h2; have s3 := C3.h3; have s4 := C3.h4; clear k3_ B3 C3)
              | (go_at_call 26; (refine (HNC.out w3 K3.out).mono ?_); rintro e w4 ⟨rfl, k4_⟩; have K4 := Lib.hid ((KA.out.trans K3.out).trans k4_); clear k4_))
            go_roundw
            case rel => exact ⟨j + 1, by omega, by go_num, step, K4.out⟩
            case measure => simp [intOf]; omega
          | false =>
            rw [if_pos (by rw [he]; simp [h18])] at hd
            have fin : Hid (begM (mL L) name (.mk k t n nm kids) = false) := hmain.out.trans (hno.out.trans hd)
            rw [he] at HNC
            clear hd he hno h18
            go_wp2_with (first
              | (go_at_call 27; (refine HC.out.mono ?_); rintro e w3 ⟨rfl, k3_⟩; have K3 := Lib.hid k3_; have B3 := BP.out.kept k3_ (fun h => h); have C3 := B2.out.kept k3_ (fun h => h); have r0 := B3.h0; have s0 := C3.h0; have s1 := C3.h1; have s2 := C3.h2; have s3 := C3.h3; have s4 := C3.h4; clear k3_ B3 C3)
              | (go_at_call 26; (refine (HNC.out w3 K3.out).mono ?_); rintro e w4 ⟨rfl, k4_⟩; have K4 := Lib.hid ((KA.out.trans K3.out).trans k4_); clear k4_))
            go_ret
            exact ⟨by rw [fin.out]; try rfl, K1.out.trans K4.out⟩
        · have y18 : (k == 18) = false := by simpa using h18
          rw [if_neg (by simp [h18])] at hd
          have step := Lib.hid (hno.out.trans hd)
          clear hd hno h18
          go_wp2_with (go_at_call 27; (refine HC.out.mono ?_); rintro e w3 ⟨rfl, k3_⟩; have K3 := Lib.hid (KA.out.trans k3_); have r0 := (BP.out.kept k3_ (fun h => h)).h0; clear k3_)
          go_roundw
          case rel => exact ⟨j + 1, by omega, by go_num, step, K3.out⟩
          case measure => simp [intOf]; omega
    · obtain rfl : j = kids.length := by omega
      have fin : Hid (begM (mL L) name (.mk k t n nm kids) = false) := by unfold Hid; rw [hmain.out, hno.out, List.drop_length, begL]
      go_wp2_with fail
      go_ret
      exact ⟨by rw [fin.out]; try rfl, K1.out.trans KW.out⟩
end Go.Proofs.Ytdkpdomggbiolaa
