/- (*Table).Next: where one may go on. -/
import Derived.Test.YtkhhinmhgjicgaaPu
import Derived.Test.YtkhhinmhgjicgaaCk
namespace Go.Proofs.Ytkhhinmhgjicgaa
set_option linter.all false
open Go.RowKit

def mayF (s : StT) : Bool := decide (s.kind ≠ 1 ∧ s.kind ≠ 6 ∧ s.kind ≠ 7)
def nextL (m : ByteArray → Option Int) (len j : Nat) (s : StT) : List Int :=
  if s.always.size ≠ 0 then addK [] (putF m len j s.always)
  else if mayF s = true then addK (addK [] (putF m len j s.yes)) (putF m len j s.noes) else addK [] (putF m len j s.yes)
theorem addK_len (xs : List Int) (k : Option Int) : (addK xs k).length ≤ xs.length + 1 := by
  unfold addK
  split
  · omega
  · split
    · omega
    · simp
theorem OwnI.base {w : World} {B B' : Nat} {v : Value} {l : List Int} (h : OwnI w B v l) (hB : B' ≤ B) : OwnI w B' v l := by
  refine ⟨h.1, ?_⟩
  rcases h.2 with h1 | ⟨g, cap, cur, h0, hb, h2⟩
  · exact .inl h1
  · exact .inr ⟨g, cap, cur, h0, by omega, h2⟩
def NextQ (xs : List Int) (w : World) (e : Ending) (w' : World) : Prop := ∃ v b, e = .returned (.tuple #[v, .bool b]) ∧ OwnI w' w.heap.size v (sortI xs) ∧ Kept Nix w w'
theorem ret_next {f : Func} {tmps : Array Value} {xs : List Int} {w w2 : World} {N : Nat} {va : Option Addr} {vn vc : Nat} {b : Bool} (hres : f.results = #[.cell 6 50, .cell 7 4]) (h6 : tmps.getD 6 undef = .pointer (some ⟨N + 3, 0, none⟩)) (h7 : tmps.getD 7 undef = .pointer (some ⟨N + 4, 0, none⟩))
    (c6 : Cel w2 (N + 3) 50 (.slice va vn vc)) (c7 : Cel w2 (N + 4) 4 (.bool b)) (hO : OwnI w2 w.heap.size (.slice va vn vc) (sortI xs)) (K : Kept Nix w w2) : bodyPost Try.prog f (NextQ xs w) .ret ⟨tmps, []⟩ w2 := by
  have e6 := c6.cell
  have e7 := c7.cell
  have ht6 : tmps[6]?.getD undef = .pointer (some ⟨N + 3, 0, none⟩) := by rw [← h6, Array.getD_eq_getD_getElem?]
  have ht7 : tmps[7]?.getD undef = .pointer (some ⟨N + 4, 0, none⟩) := by rw [← h7, Array.getD_eq_getD_getElem?]
  exact bodyPost_ret (v := .tuple #[.slice va vn vc, .bool b]) (by simp [results, hres, go_sem, ht6, ht7, e6, e7]) rfl ⟨_, b, rfl, hO, K⟩

set_option maxRecDepth 100000 in
set_option maxHeartbeats 4000000 in
theorem next_any (T B1 B2 n1 : Nat) (mF : ByteArray → Option Int) (l : List StT) (al : Option Addr) (cl j : Nat) (S : Nat → Prop) (w : World) (hl : StsAt w S al l) (hS : Safe S Nix w.heap.size) (hT : TabT w T B1 B2) (hM : MapF w B1 n1 mF) (hj : j < l.length) (hlen : l.length ≤ 1048576) :
    Calls Try.prog 16 #[.pointer (some ⟨T, 0, none⟩), .slice al l.length cl, .int .i64 j] w (NextQ (nextL mF l.length j l[j]) w) := by
  have hmf : ∀ (fn : Fn) (first cap : Array Value) (w : World), (Instr.makeFunc fn first cap).run Try.prog w = .ok (.func fn first cap) w := fun _ _ _ _ => rfl
  obtain ⟨b, o, rfl, hc⟩ := hl (by omega)
  obtain ⟨a, hSb, hz, hcc, _⟩ := hc j hj
  obtain ⟨s, hs⟩ : ∃ s, s = l[j] := ⟨_, rfl⟩
  rw [← hs] at hz hcc ⊢
  have HZ := Lib.hid hz
  have hbw := (hS b hSb).1
  have X1 : Hid (w.cell? ⟨b, o + j * 24 + 1, none⟩ = some (.int .i64 s.kind)) := hcc 1 (by decide)
  have X21 : Hid (w.cell? ⟨b, o + j * 24 + 21, none⟩ = some (.string s.always)) := hcc 21 (by decide)
  have X22 : Hid (w.cell? ⟨b, o + j * 24 + 22, none⟩ = some (.string s.yes)) := hcc 22 (by decide)
  have X23 : Hid (w.cell? ⟨b, o + j * 24 + 23, none⟩ = some (.string s.noes)) := hcc 23 (by decide)
  obtain ⟨N, hN⟩ : ∃ N, N = w.heap.size := ⟨_, rfl⟩
  obtain ⟨w1, hw1⟩ : ∃ w1, w1 = ((((w.alloc (.cells #[.pointer (some ⟨T, 0, none⟩)] 43)).alloc (.cells #[.slice (some ⟨b, o, none⟩) l.length cl] 22)).alloc (.cells #[.int .i64 j] 3)).alloc (.cells #[.slice none 0 0] 50)).alloc (.cells #[.bool false] 4) := ⟨_, rfl⟩
  have k1 : Kept Nix w w1 := by rw [hw1]; exact (((((Kept.refl Nix w).alloc _).alloc _).alloc _).alloc _).alloc _
  have C1 : Hid (NxC N T (some ⟨b, o, none⟩) l.length cl j [] w1) := by
    rw [hw1, hN]
    exact ⟨((((Cel.new _ _ _).alloc _).alloc _).alloc _).alloc _, (((Cel.new' (by simp)).alloc _).alloc _).alloc _, ((Cel.new' (by simp)).alloc _).alloc _, ⟨_, (Cel.new' (by simp)).alloc _, OwnI.nil _ _⟩, ⟨false, Cel.new' (by simp)⟩, by simp⟩
  have T1 := Lib.hid (hT.kept k1 (fun h => h)); have M1 := Lib.hid (hM.kept k1 (fun h => h))
  have K1 := Lib.hid k1
  have hTN : T < N := by rw [hN]; exact hT.lt
  have hBN : B1 < N := by rw [hN]; exact hM.lt
  have HW1 := Lib.hid hw1
  have hbN : b < N := by rw [hN]; exact hbw
  have HNW := Lib.hid hN
  clear hl hc hz hcc hw1 k1 hT hM hS hN hs
  have c1 := C1.out.cl.cell
  have c2 := C1.out.ci.cell
  go_enter Try.func16, Try.ntmps16
  go_upto_region 1 with fail
  rw [← HNW.out, ← HW1.out]
  rw [show N + 1 + 1 + 1 + 1 = N + 4 from rfl, show N + 1 + 1 + 1 = N + 3 from rfl, show N + 1 + 1 = N + 2 from rfl]
  clear HW1
  have hal : s.always.size ≤ maxLen := by have := HZ.out.always; unfold maxLen; omega
  have hye : s.yes.size ≤ maxLen := by have := HZ.out.yes; unfold maxLen; omega
  have hno : s.noes.size ≤ maxLen := by have := HZ.out.noes; unfold maxLen; omega
  have XK : ∀ (w' : World) (d : Nat) (v : Value), Kept (fun b => N + 3 ≤ b) w w' → w.cell? ⟨b, d, none⟩ = some v → w'.cell? ⟨b, d, none⟩ = some v := fun _ _ _ hk h => (hk.cell (by omega) (by omega)).trans h
  have HXK := Lib.hid XK
  clear XK
  have KA : Hid (Kept (fun b => N + 3 ≤ b) w w1) := K1.out.more (fun _ h => h.elim)
  have y21 := HXK.out _ _ _ KA.out X21.out
  go_upto_if 18 with fail
  go_cut [18] (fun _ wx => NxC N T (some ⟨b, o, none⟩) l.length cl j (nextL mF l.length j s) wx ∧ Kept (fun b => N + 3 ≤ b) w wx)
  case first =>
    by_cases h0 : s.always.size = 0
    rotate_left
    · have e3 : s.always.toList.isEmpty = false := isEmpty_size'.2 (by omega)
      have fin : Hid (nextL mF l.length j s = addK [] (putF mF l.length j s.always)) := if_pos h0
      clear h0
      rw [e3]
      go_wp2_with (go_at_call 36; (with_reducible refine (put_any N T B1 B2 n1 mF s.always (some ⟨b, o, none⟩) l.length cl j [] w1 C1.out T1.out M1.out hal (by omega) hlen (by decide)).mono ?_); rintro e w2 ⟨rfl, hC2, hk2⟩; have C2 := Lib.hid hC2; have K2 := Lib.hid (KA.out.trans hk2); clear hC2 hk2)
      go_meet
      exact ⟨by rw [fin.out]; exact C2.out, K2.out⟩
    have e3 : s.always.toList.isEmpty = true := isEmpty_size.2 h0
    have H0 := Lib.hid h0
    have y22 := HXK.out _ _ _ KA.out X22.out
    clear h0
    rw [e3]
    cases hm : mayF s with
    | false =>
      have fin : Hid (nextL mF l.length j s = addK [] (putF mF l.length j s.yes)) := by unfold Hid nextL; rw [if_neg (fun h => h H0.out), if_neg (by rw [hm]; decide)]
      have HMY := Lib.hid hm
      clear hm
      go_wp2_with (first
        | (go_at_call 36; (with_reducible refine (put_any N T B1 B2 n1 mF s.yes (some ⟨b, o, none⟩) l.length cl j [] w1 C1.out T1.out M1.out hye (by omega) hlen (by decide)).mono ?_); rintro e w2 ⟨rfl, hC2, hk2⟩; have C2 := Lib.hid hC2; have K2 := Lib.hid (KA.out.trans hk2); have y1 := HXK.out _ _ _ K2.out X1.out; clear hC2 hk2)
        | (go_at_call 38; (refine (may_any s b (o + j * 24) w2 y1).mono ?_); rintro e w' ⟨rfl, hw_⟩; obtain rfl := hw_.symm; rw [show decide (s.kind ≠ 1 ∧ s.kind ≠ 6 ∧ s.kind ≠ 7) = false from HMY.out]))
      go_meet
      exact ⟨by rw [fin.out]; exact C2.out, K2.out⟩
    | true =>
      have fin : Hid (nextL mF l.length j s = addK (addK [] (putF mF l.length j s.yes)) (putF mF l.length j s.noes)) := by unfold Hid nextL; rw [if_neg (fun h => h H0.out), if_pos hm]
      have HMY := Lib.hid hm
      clear hm
      go_wp2_with (first
        | (go_at_call 36; (with_reducible refine (put_any N T B1 B2 n1 mF s.yes (some ⟨b, o, none⟩) l.length cl j [] w1 C1.out T1.out M1.out hye (by omega) hlen (by decide)).mono ?_); rintro e w2 ⟨rfl, hC2, hk2⟩; have C2 := Lib.hid hC2; have K2 := Lib.hid (KA.out.trans hk2); have y1 := HXK.out _ _ _ K2.out X1.out; have y23 := HXK.out _ _ _ K2.out X23.out; have T2 := Lib.hid (T1.out.kept hk2 (by omega)); have M2 := Lib.hid (M1.out.kept hk2 (by omega)); clear hC2 hk2)
        | (go_at_call 38; (refine (may_any s b (o + j * 24) w2 y1).mono ?_); rintro e w' ⟨rfl, hw_⟩; obtain rfl := hw_.symm; rw [show decide (s.kind ≠ 1 ∧ s.kind ≠ 6 ∧ s.kind ≠ 7) = true from HMY.out])
        | (go_at_call 36; (with_reducible refine (put_any N T B1 B2 n1 mF s.noes (some ⟨b, o, none⟩) l.length cl j (addK [] (putF mF l.length j s.yes)) w2 C2.out T2.out M2.out hno (by omega) hlen (by have := addK_len [] (putF mF l.length j s.yes); simp at this; omega)).mono ?_); rintro e w3 ⟨rfl, hC3, hk3⟩; have C3 := Lib.hid hC3; have K3 := Lib.hid (K2.out.trans hk3); clear hC3 hk3))
      go_meet
      exact ⟨by rw [fin.out]; exact C3.out, K3.out⟩
  case rest =>
    obtain ⟨w4, hw4⟩ : ∃ x, x = wc := ⟨_, rfl⟩
    rw [← hw4] at hcut ⊢
    clear hw4
    obtain ⟨hC4, hK4⟩ := hcut
    have hxl : (nextL mF l.length j s).length < 1000000000 := by
      have h1 := addK_len [] (putF mF l.length j s.always)
      have h2 := addK_len [] (putF mF l.length j s.yes)
      have h3 := addK_len (addK [] (putF mF l.length j s.yes)) (putF mF l.length j s.noes)
      simp only [List.length_nil] at h1 h2 h3
      unfold nextL; split
      · omega
      · split <;> omega
    have K4 := Lib.hid hK4; have C4 := Lib.hid hC4
    generalize nextL mF l.length j s = xs at *
    obtain ⟨v4, cv4, ov4⟩ := hC4.co
    obtain ⟨b4, cb4⟩ := hC4.cv
    have hvs : ∃ va vn vc, v4 = .slice va vn vc := by
      rcases ov4.shape with ⟨rfl, rfl⟩ | ⟨g, c, rfl, _⟩
      · exact ⟨_, _, _, rfl⟩
      · exact ⟨_, _, _, rfl⟩
    obtain ⟨va, vn, vc, rfl⟩ := hvs
    have CV4 := Lib.hid cv4; have OV4 := Lib.hid ov4; have CB4 := Lib.hid cb4
    have y3 := cv4.cell
    clear hC4 hK4 cv4 ov4 cb4 y21 c1 c2
    go_wp2_with (go_at_call 39; (refine (sortI_any (N + 5) _ xs w4 OV4.out hxl).mono ?_); rintro e w5 ⟨rfl, ho5, hk5⟩; have O5 := Lib.hid ho5; have K5 := Lib.hid hk5; clear ho5 hk5; have CV5 := Lib.hid (CV4.out.kept K5.out (by omega)); have CB5 := Lib.hid (CB4.out.kept K5.out (by omega)); have z3 := CV5.out.cell; have z4 := CB5.out.cell; have z5 := CV5.out.free; have z6 := CB5.out.free)
    have hNw := HNW.out
    have KF : Hid (∀ u x, Kept (fun b => b = N + 3 ∨ b = N + 4) w5 (((w5.drew).setCell ⟨N + 3, 0, none⟩ u).setCell ⟨N + 4, 0, none⟩ x)) := fun u x => ((Kept.refl (fun b => b = N + 3 ∨ b = N + 4) w5).drew.setCell (p := ⟨N + 3, 0, none⟩) (.inl (.inl rfl)) _).setCell (p := ⟨N + 4, 0, none⟩) (.inl (.inr rfl)) _
    have O6 := Lib.hid (O5.out.base (B' := w.heap.size) (by omega))
    have hlt6 : Hid (∀ k, (Value.slice va vn vc).ownBlock = some k → ¬ (k = N + 3 ∨ k = N + 4)) := fun k hk h => by have := (OV4.out.lt k hk).1; omega
    have KZ : Hid (Kept Nix w w5) := (Kept.refl Nix w).step (K4.out.trans (K5.out.more (fun b (hb : N + 5 ≤ b) => (show N + 3 ≤ b by omega)))) (fun y hy => .inr (by have : N + 3 ≤ y := hy; omega))
    clear hNw
    go_region
    go_wp2_with fail
    exact ret_next (N := N) rfl rfl rfl ((CV5.out.set _).other (by omega) _) ((CB5.out.other (by omega) _).set _) (O6.out.kept (KF.out _ _) hlt6.out) (KZ.out.step (KF.out _ _) (fun y hy => .inr (by have := HNW.out; rcases hy with h | h <;> omega)))
end Go.Proofs.Ytkhhinmhgjicgaa
