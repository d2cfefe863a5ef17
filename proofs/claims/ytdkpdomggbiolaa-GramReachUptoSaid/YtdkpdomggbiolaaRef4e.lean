/- The reference of chapter 4: Wrong. -/
import Derived.Test.YtdkpdomggbiolaaRef4d
import Derived.Test.YtdkpdomggbiolaaRef4b
namespace Go.Proofs.Ytdkpdomggbiolaa
set_option linter.all false
open Go.RowKit

/-- An element of a row of patterns, as a pattern in memory. -/
theorem Row5.at {w : World} {S : Nat → Prop} : ∀ {l : List PatT} {cs : List Value}, Row5 w S cs l → ∀ (g o : Nat), (∀ j u, cs[j]? = some u → w.cell? ⟨g, o + j, none⟩ = some u) →
    ∀ (j : Nat) (hj : j < l.length), PatAt w (fun b => S b ∨ b = g) g (o + j * 5) l[j]
  | [], cs, h, g, o, hc, j, hj => by simp at hj
  | p :: ps, cs, h, g, o, hc, j, hj => by
    rw [Row5] at h; obtain ⟨c, r, rfl, ⟨ka, cap, rfl, hz, hk⟩, h2⟩ := h
    cases j with
    | zero =>
      obtain ⟨k, t, n, nm, kids⟩ := p
      rw [List.getElem_cons_zero]; unfold PatAt
      refine ⟨.inr rfl, hz, hc 0 _ rfl, hc 1 _ rfl, hc 2 _ rfl, hc 3 _ rfl, ka, cap, hc 4 _ rfl, PatsAt.same (fun _ _ => rfl) (fun b h => .inl h) _ _ hk⟩
    | succ j =>
      rw [List.getElem_cons_succ, show o + (j + 1) * 5 = o + 5 + j * 5 by omega]
      refine h2.at g (o + 5) (fun i u hi => ?_) j (by simpa using hj)
      rw [show o + 5 + i = o + (5 + i) by omega]; exact hc _ _ (by rw [List.getElem?_append_right (by simp)]; simpa using hi)
theorem Win.row5 {w : World} {B : Nat} {S : Nat → Prop} {e : TypeId} {v : Value} {l : List PatT} {cs : List Value} (h : Win w B e 5 v l.length cs) (hr : Row5 w S cs l) (h0 : 0 < l.length) :
    ∃ g o cap, v = .slice (some ⟨g, o, none⟩) l.length cap ∧ B ≤ g ∧ g < w.heap.size ∧ ∀ (j : Nat) (hj : j < l.length), PatAt w (fun b => S b ∨ b = g) g (o + j * 5) l[j] := by
  rcases h.cells with ⟨_, hn⟩ | ⟨g, o, cap, hv, hb, hg, _, _, hc⟩
  · omega
  · exact ⟨g, o, cap, hv, hb, hg, hr.at g o fun j u hu => (hc j u hu).1⟩
theorem firstF_eq (l : List PatT) (j : Nat) (h : ∀ i, i < j → ∀ (hi : i < l.length), nodeF l[i] = 0) : firstF l = firstF (l.drop j) := by
  induction l generalizing j with
  | nil => simp
  | cons p ps ih =>
    cases j with
    | zero => rfl
    | succ j =>
      have h0 := h 0 (by omega) (by simp)
      rw [List.getElem_cons_zero] at h0
      rw [firstF, if_pos h0, List.drop_succ_cons]
      exact ih j fun i hi hl => by have := h (i + 1) (by omega) (by simpa using hl); simpa using this

def refWrongR (p : PatT) : Int := if fits p then firstF (allT p) else 4
set_option maxRecDepth 100000 in
set_option maxHeartbeats 1000000 in
theorem refWrong_any (p : PatT) (v : Value) (S : Nat → Prop) (w : World) (hm : sizeT p ≤ 100000000) (hp : PatV w S v p) (hS : Safe S Nix w.heap.size) :
    Calls Try.prog 16 #[v] w (IntQ (refWrongR p) w) := by
  obtain ⟨ka, cap, rfl, hz, hk⟩ := hp
  have B0 := Box5.new w (.int .i64 p.kind) (.string p.text) (.int .i64 p.n) (.string p.name) (.slice ka p.kids.length cap) 25
  have hk0 := fun x => hk.kept ((Kept.refl Nix w).alloc x) hS
  have HB := Lib.hid B0; have HZ := Lib.hid hz; have HK := Lib.hid hk0
  clear B0 hz hk hk0
  go_enter Try.func16, Try.ntmps16
  go_wp2_with fail
  refine (refSize_any p _ S _ hm ⟨ka, cap, rfl, HZ.out, HK.out _⟩ (hS.mono (by simp))).mono ?_
  rintro e w1 ⟨rfl, k1⟩
  have B1 := HB.out.kept k1 (fun h => h)
  have K1 : Hid (Kept Nix w w1) := ((Kept.refl Nix w).alloc _).quiet k1
  have HP : Hid (PatV w1 S (.agg #[.int .i64 p.kind, .string p.text, .int .i64 p.n, .string p.name, .slice ka p.kids.length cap]) p) := ⟨ka, cap, rfl, HZ.out, (HK.out _).kept k1 (hS.mono (by simp))⟩
  have hs1 : Hid (Safe S Nix w1.heap.size) := hS.mono K1.out.size
  clear k1 HB HK HZ
  obtain ⟨_, c0, c1, c2, c3, c4⟩ := B1
  have hq := qF_fits p
  by_cases hf : fits p
  · rw [if_pos hf] at hq
    rw [hq]
    have fin : Hid (refWrongR p = firstF (allT p)) := if_pos hf
    have hl : ∀ (j : Nat) (hj : j < (allT p).length), ((allT p)[j]).kids.length ≤ 4096 := fun j hj => by have h := kids_fit p _ (List.getElem_mem hj); have := hf.1; omega
    have hlen := allT_length p
    have hpos := sizeT_pos p
    have HL := Lib.hid hl; have HLEN := Lib.hid hlen
    clear hq hf hl hlen
    dsimp only [refSizeR]
    go_wp2_with fail
    refine (All_any (sizeT p) p _ S _ (Nat.le_refl _) hm HP.out hs1.out).mono ?_
    rintro e w2 ⟨v2, rfl, ⟨cs, hW, hR⟩, k2⟩
    obtain ⟨g, o, cp, rfl, _, hg, hat⟩ := hW.row5 hR (by rw [HLEN.out]; omega)
    have K2 : Hid (Kept Nix w w2) := K1.out.trans k2
    have hle := k2.size
    have AT := Lib.hid hat; have GG := Lib.hid hg
    clear hW hR k2 hat hg c0 c1 c2 c3 c4 K1
    rw [HLEN.out]
    have b2 : ∃ N, N = w2.heap.size := ⟨_, rfl⟩
    go_wp2_with fail
    go_loopw [20] (fun i wr => ∃ j : Nat, j ≤ sizeT p ∧ i = .int .i64 j ∧ Kept Nix w2 wr ∧ Hid (∀ x, x < j → ∀ (hx : x < (allT p).length), nodeF (allT p)[x] = 0)) (fun i _ => sizeT p - (intOf i).toNat)
    case atStart => exact ⟨0, Nat.zero_le _, rfl, Kept.refl _ _, by intro x hx; omega⟩
    case round =>
      obtain ⟨j, hj, rfl, hK, hno⟩ := hrel
      by_cases hlt : j < sizeT p
      · have hj' : j < (allT p).length := by rw [HLEN.out]; exact hlt
        have hn := (AT.out j hj').kept hK (fun b hb => ⟨by rcases hb with h | rfl; exact Nat.lt_of_lt_of_le (hs1.out b h).1 hle; exact GG.out, fun h => h⟩)
        obtain ⟨_, hz', p0, p1, p2, p3, ka', cap', p4, hkk⟩ := hn.open
        have hkk' := fun x => hkk.kept ((Kept.refl Nix wr).alloc x) (fun b hb => ⟨by have := hK.size; rcases hb with h | rfl; exact Nat.lt_of_lt_of_le (Nat.lt_of_lt_of_le (hs1.out b h).1 hle) this; exact Nat.lt_of_lt_of_le GG.out this, fun h => h⟩)
        have HKK := Lib.hid hkk'; have HZ := Lib.hid hz'; have HKr := Lib.hid hK
        clear hn hkk hkk' hz' hK
        go_wp2_with fail
        refine (refNode_any (allT p)[j] _ _ _ ⟨ka', cap', rfl, HZ.out, HKK.out _⟩ (HL.out j hj')).mono ?_
        rintro e w3 ⟨rfl, k3⟩
        have K3 : Hid (Kept Nix w2 w3) := (HKr.out.alloc _).quiet k3
        have N0 : Hid (nodeF (allT p)[j] = nodeF (allT p)[j]) := rfl
        generalize hnf : nodeF (allT p)[j] = nf at N0 ⊢
        have HNF := Lib.hid hnf
        clear k3 HKr HKK HZ p0 p1 p2 p3 p4 hnf N0
        by_cases hz : nf = 0
        · subst hz
          go_wp2_with fail
          go_roundw
          case rel => exact ⟨j + 1, by omega, by go_num, K3.out, by
            intro x hx hxl
            rcases Nat.lt_or_ge x j with h | h
            · exact hno.out x h hxl
            · obtain rfl : x = j := by omega
              exact HNF.out⟩
          case measure => simp [intOf]; omega
        · have hb : (nf != 0) = true := by simpa using hz
          have F : Hid (refWrongR p = nf) := by
            unfold Hid; rw [fin.out, firstF_eq _ j (fun i hi hl => hno.out i hi hl), List.drop_eq_getElem_cons hj', firstF, if_neg (by rw [HNF.out]; exact hz)]; exact HNF.out
          clear hz
          go_wp2_with fail
          go_ret
          exact ⟨ret_int F.out.symm, K2.out.trans K3.out⟩
      · obtain rfl : j = sizeT p := by omega
        have F : Hid (refWrongR p = 0) := by
          unfold Hid; rw [fin.out, firstF_eq _ (sizeT p) (fun i hi hl => hno.out i hi hl), List.drop_of_length_le (by rw [HLEN.out]; exact Nat.le_refl _)]; rfl
        go_wp2_with fail
        go_ret
        exact ⟨ret_int F.out.symm, K2.out.trans hK⟩
  · rw [if_neg hf] at hq
    rw [hq]
    have fin : Hid (refWrongR p = 4) := if_neg hf
    clear hq hf
    dsimp only [refSizeR]
    go_wp2_with fail
    go_ret
    exact ⟨ret_int fin.out.symm, K1.out⟩
end Go.Proofs.Ytdkpdomggbiolaa
