/- All of the library's programs are read, and right. The law of the library's texts, walked. How a law that answers true, and leaves its arguments alone, becomes its row. -/
import Derived.Test.YtlnhcgihpclpaaaGreatDoorLy51
import Derived.Test.YtlnhcgihpclpaaaGreatDoorLy52
import Derived.Test.YtlnhcgihpclpaaaGreatDoorLy53
import Derived.Test.YtlnhcgihpclpaaaGreatDoorLy54
import Derived.Test.YtlnhcgihpclpaaaGreatDoorLm20
import Derived.Test.YtlnhcgihpclpaaaGreatDoorRows
import Derived.Test.YtlnhcgihpclpaaaGreatDoorLm1
import Derived.ProofKit
import Derived.OpenShut
import Derived.JoinedCond
import Derived.ChangeSame
import Derived.Carry
namespace Go.Proofs.YtlnhcgihpclpaaaGreatDoor
set_option linter.all false
open Go.RowKit

theorem lib_ok : ∀ x ∈ tabA, progOk x.2 = true := by
  intro x hx
  unfold tabA tabE tabL at hx
  simp only [List.cons_append, List.nil_append, List.mem_cons, List.not_mem_nil, or_false] at hx
  rcases hx with rfl | rfl | rfl | rfl | rfl | rfl | rfl | rfl | rfl | rfl | rfl | rfl | rfl | rfl | rfl | rfl | rfl | rfl | rfl | rfl | rfl | rfl | rfl | rfl | rfl | rfl | rfl | rfl | rfl
  · exact ok_binary
  · exact ok_brackets
  · exact ok_caesar
  · exact ok_cat
  · exact ok_collatz
  · exact ok_count
  · exact ok_digits
  · exact ok_divisors
  · exact ok_euclid
  · exact ok_factorial
  · exact ok_fibonacci
  · exact ok_fields
  · exact ok_hanoi
  · exact ok_head
  · exact ok_longest
  · exact ok_mirror
  · exact ok_number
  · exact ok_pascal
  · exact ok_primes
  · exact ok_range
  · exact ok_reverse
  · exact ok_roman
  · exact ok_sort
  · exact ok_squeeze
  · exact ok_sum
  · exact ok_unique
  · exact ok_upper
  · exact ok_vowels
  · exact ok_words
end Go.Proofs.YtlnhcgihpclpaaaGreatDoor

namespace Go.Proofs.YtlnhcgihpclpaaaGreatDoor
set_option linter.all false
open Go.RowKit

theorem tab_cases {P : ByteArray × ByteArray → Prop} (h0 : P (⟨#[98, 105, 110, 97, 114, 121]⟩, tx_binary)) (h1 : P (⟨#[98, 114, 97, 99, 107, 101, 116, 115]⟩, tx_brackets)) (h2 : P (⟨#[99, 97, 101, 115, 97, 114]⟩, tx_caesar)) (h3 : P (⟨#[99, 97, 116]⟩, tx_cat)) (h4 : P (⟨#[99, 111, 108, 108, 97, 116, 122]⟩, tx_collatz)) (h5 : P (⟨#[99, 111, 117, 110, 116]⟩, tx_count)) (h6 : P (⟨#[100, 105, 103, 105, 116, 115]⟩, tx_digits)) (h7 : P (⟨#[100, 105, 118, 105, 115, 111, 114, 115]⟩, tx_divisors)) (h8 : P (⟨#[101, 117, 99, 108, 105, 100]⟩, tx_euclid)) (h9 : P (⟨#[102, 97, 99, 116, 111, 114, 105, 97, 108]⟩, tx_factorial)) (h10 : P (⟨#[102, 105, 98, 111, 110, 97, 99, 99, 105]⟩, tx_fibonacci)) (h11 : P (⟨#[102, 105, 101, 108, 100, 115]⟩, tx_fields)) (h12 : P (⟨#[104, 97, 110, 111, 105]⟩, tx_hanoi)) (h13 : P (⟨#[104, 101, 97, 100]⟩, tx_head)) (h14 : P (⟨#[108, 111, 110, 103, 101, 115, 116]⟩, tx_longest)) (h15 : P (⟨#[109, 105, 114, 114, 111, 114]⟩, tx_mirror)) (h16 : P (⟨#[110, 117, 109, 98, 101, 114]⟩, tx_number)) (h17 : P (⟨#[112, 97, 115, 99, 97, 108]⟩, tx_pascal)) (h18 : P (⟨#[112, 114, 105, 109, 101, 115]⟩, tx_primes)) (h19 : P (⟨#[114, 97, 110, 103, 101]⟩, tx_range)) (h20 : P (⟨#[114, 101, 118, 101, 114, 115, 101]⟩, tx_reverse)) (h21 : P (⟨#[114, 111, 109, 97, 110]⟩, tx_roman)) (h22 : P (⟨#[115, 111, 114, 116]⟩, tx_sort)) (h23 : P (⟨#[115, 113, 117, 101, 101, 122, 101]⟩, tx_squeeze)) (h24 : P (⟨#[115, 117, 109]⟩, tx_sum)) (h25 : P (⟨#[117, 110, 105, 113, 117, 101]⟩, tx_unique)) (h26 : P (⟨#[117, 112, 112, 101, 114]⟩, tx_upper)) (h27 : P (⟨#[118, 111, 119, 101, 108, 115]⟩, tx_vowels)) (h28 : P (⟨#[119, 111, 114, 100, 115]⟩, tx_words)) : ∀ x ∈ tabA, P x := by
  intro x hx
  unfold tabA tabE tabL at hx
  simp only [List.cons_append, List.nil_append, List.mem_cons, List.not_mem_nil, or_false] at hx
  rcases hx with rfl | rfl | rfl | rfl | rfl | rfl | rfl | rfl | rfl | rfl | rfl | rfl | rfl | rfl | rfl | rfl | rfl | rfl | rfl | rfl | rfl | rfl | rfl | rfl | rfl | rfl | rfl | rfl | rfl
  · exact h0
  · exact h1
  · exact h2
  · exact h3
  · exact h4
  · exact h5
  · exact h6
  · exact h7
  · exact h8
  · exact h9
  · exact h10
  · exact h11
  · exact h12
  · exact h13
  · exact h14
  · exact h15
  · exact h16
  · exact h17
  · exact h18
  · exact h19
  · exact h20
  · exact h21
  · exact h22
  · exact h23
  · exact h24
  · exact h25
  · exact h26
  · exact h27
  · exact h28
theorem lib_text : ∀ x ∈ tabA, textT x.1 tabA = (x.2, 0) := tab_cases (by kernel_rfl) (by kernel_rfl) (by kernel_rfl) (by kernel_rfl) (by kernel_rfl) (by kernel_rfl) (by kernel_rfl) (by kernel_rfl) (by kernel_rfl) (by kernel_rfl) (by kernel_rfl) (by kernel_rfl) (by kernel_rfl) (by kernel_rfl) (by kernel_rfl) (by kernel_rfl) (by kernel_rfl) (by kernel_rfl) (by kernel_rfl) (by kernel_rfl) (by kernel_rfl) (by kernel_rfl) (by kernel_rfl) (by kernel_rfl) (by kernel_rfl) (by kernel_rfl) (by kernel_rfl) (by kernel_rfl) (by kernel_rfl)
theorem lib_size : ∀ x ∈ tabA, x.2.size ≤ 1000 := tab_cases (of_decide_eq_true (by kernel_rfl)) (of_decide_eq_true (by kernel_rfl)) (of_decide_eq_true (by kernel_rfl)) (of_decide_eq_true (by kernel_rfl)) (of_decide_eq_true (by kernel_rfl)) (of_decide_eq_true (by kernel_rfl)) (of_decide_eq_true (by kernel_rfl)) (of_decide_eq_true (by kernel_rfl)) (of_decide_eq_true (by kernel_rfl)) (of_decide_eq_true (by kernel_rfl)) (of_decide_eq_true (by kernel_rfl)) (of_decide_eq_true (by kernel_rfl)) (of_decide_eq_true (by kernel_rfl)) (of_decide_eq_true (by kernel_rfl)) (of_decide_eq_true (by kernel_rfl)) (of_decide_eq_true (by kernel_rfl)) (of_decide_eq_true (by kernel_rfl)) (of_decide_eq_true (by kernel_rfl)) (of_decide_eq_true (by kernel_rfl)) (of_decide_eq_true (by kernel_rfl)) (of_decide_eq_true (by kernel_rfl)) (of_decide_eq_true (by kernel_rfl)) (of_decide_eq_true (by kernel_rfl)) (of_decide_eq_true (by kernel_rfl)) (of_decide_eq_true (by kernel_rfl)) (of_decide_eq_true (by kernel_rfl)) (of_decide_eq_true (by kernel_rfl)) (of_decide_eq_true (by kernel_rfl)) (of_decide_eq_true (by kernel_rfl))
theorem LsAt.of {w : World} {B : Nat} {a : Option Addr} {c n : Nat} {l : List ByteArray} (h : Win w B 9 1 (.slice a n c) n (strR l)) (h0 : 0 < n) (hl : l.length = n) : LsAt w a l := by
  rcases h.cells with ⟨hv, hn⟩ | ⟨g, o, c', hv, _, hg, _, _, hc⟩
  · omega
  · simp only [Value.slice.injEq, true_and] at hv
    obtain ⟨rfl, rfl⟩ := hv
    exact ⟨g, o, rfl, hg, fun j hj => (hc j _ (by simp [strR, hj])).1⟩
theorem LsAt.row {w : World} {l : List ByteArray} {g : Nat} (h : w.heap[g]? = some (.cells (strR l).toArray 9 (0, 0))) : LsAt w (some ⟨g, 0, none⟩) l :=
  ⟨g, 0, rfl, (Array.getElem?_eq_some_iff.1 h).1, fun j hj => by rw [cell_of_row w g (0 + j) _ _ _ h]; simp [strR, hj]⟩
def NmQ (L : List ByteArray) (w : World) (e : Ending) (w' : World) : Prop := ∃ a c, e = .returned (.slice a 29 c) ∧ LsAt w' a L ∧ Kept Nix w w'
set_option maxRecDepth 100000 in
set_option maxHeartbeats 8000000 in
theorem tells_walk (name : ByteArray) (which : Int) (w : World) (hm : MaxC w) (hr : RngAt w) : Calls Tryz.prog 3 #[.string name, .int .i64 which] w (BoolQ true w) := by
  have hTlen : tabA.length = 29 := rfl
  have hlen : namesA.length = 29 := rfl
  have hnm : ∀ j (h : j < namesA.length), ∃ x ∈ tabA, x.1 = namesA[j] := by
    intro j h
    have e : namesA[j] = (tabA.map (·.1))[j]'(by rw [namesA_eq]; exact h) := by simp only [namesA_eq]
    have hj : j < tabA.length := by omega
    refine ⟨tabA[j], List.getElem_mem hj, ?_⟩
    rw [e, List.getElem_map]
  have H1 : Hid (∀ wx, Calls Tryz.prog 4 #[.string name] wx (fun e w' => e = .returned (.tuple #[.string (textT name tabA).1, .int .i64 (textT name tabA).2]) ∧ Kept Nix wx w')) := fun wx => libText_any name wx
  have H2 : Hid (∀ wx, Calls Tryz.prog 5 #[.string name] wx (fun e w' => e = .returned (.tuple #[.string (textT name tabA).1, .int .i64 (textT name tabA).2]) ∧ w' = wx)) := fun wx => refText_any name wx
  obtain ⟨tx, htx⟩ : ∃ t, t = textT name tabA := ⟨_, rfl⟩
  rw [← htx] at H1 H2
  clear htx
  obtain ⟨t1, t2⟩ := tx
  have H3 : Hid (∀ j (h : j < namesA.length), ∃ (x : ByteArray) (l : List StT), x.size ≤ 1000 ∧ readS x = .ok l ∧ checkF l = (0, 0) ∧ l.length ≤ 1000 ∧ (∀ wx, Calls Tryz.prog 4 #[.string namesA[j]] wx (fun e w' => e = .returned (.tuple #[.string x, .int .i64 0]) ∧ Kept Nix wx w')) ∧ ∀ wx, Calls Tryz.prog 5 #[.string namesA[j]] wx (fun e w' => e = .returned (.tuple #[.string x, .int .i64 0]) ∧ w' = wx)) := by
    intro j h
    obtain ⟨x, hx, he⟩ := hnm j h
    obtain ⟨l, h1, h2, h3⟩ := progOk_ok (lib_ok x hx)
    have ht := lib_text x hx
    rw [he] at ht
    refine ⟨x.2, l, lib_size x hx, h1, h2, h3, fun wx => ?_, fun wx => ?_⟩
    · have := libText_any namesA[j] wx; unfold LibTextQ at this; rw [ht] at this; exact this
    · have := refText_any namesA[j] wx; rw [ht] at this; exact this
  have H4 : Hid (∀ wx, Calls Tryz.prog 6 #[] wx (NmQ namesA wx)) := fun wx => (names_any wx).mono (by rintro e w' ⟨a, c, rfl, hw, hk⟩; exact ⟨a, c, rfl, LsAt.of hw (by decide) hlen, hk⟩)
  have H5 : Hid (∀ wx, Calls Tryz.prog 8 #[] wx (NmQ namesA wx)) := fun wx => (refNames_any wx).mono (by rintro e w' ⟨rfl, rfl⟩; exact ⟨_, _, rfl, LsAt.row (heap_alloc_new wx _), (Kept.refl Nix wx).alloc _⟩)
  obtain ⟨L, hL⟩ : ∃ L, L = namesA := ⟨_, rfl⟩
  rw [← hL] at H4 H5 hlen
  have H3 : Hid (∀ j (h : j < L.length), ∃ (x : ByteArray) (l : List StT), x.size ≤ 1000 ∧ readS x = .ok l ∧ checkF l = (0, 0) ∧ l.length ≤ 1000 ∧ (∀ wx, Calls Tryz.prog 4 #[.string L[j]] wx (fun e w' => e = .returned (.tuple #[.string x, .int .i64 0]) ∧ Kept Nix wx w')) ∧ ∀ wx, Calls Tryz.prog 5 #[.string L[j]] wx (fun e w' => e = .returned (.tuple #[.string x, .int .i64 0]) ∧ w' = wx)) := by subst hL; exact H3
  have HM := Lib.hid hm; have HR := Lib.hid hr; have HLN := Lib.hid hlen
  clear hL hTlen hnm hm hr hlen
  go_enter Tryz.func3, Tryz.ntmps3
  go_upto_region 4 with (first
    | (go_at_call 4; (refine (H1.out w).mono ?_); rintro e w1 ⟨rfl, k_⟩; have K1 := Lib.hid k_; clear k_)
    | (go_at_call 5; (refine (H2.out w1).mono ?_); rintro e w' ⟨rfl, hw_⟩; obtain rfl := hw_.symm)
    | (go_at_call 6; (refine (H4.out w1).mono ?_); rintro e w2 ⟨na, nc, rfl, l_, k_⟩; have N2 := Lib.hid l_; have K2 := Lib.hid (K1.out.trans k_); clear k_ l_))
  go_upto_region 6 with (first
    | (go_at_call 8; (refine (H5.out w2).mono ?_); rintro e w3 ⟨ra, rc, rfl, l_, k_⟩; have R3 := Lib.hid l_; have HK3 := Lib.hid k_; have K3 := Lib.hid (K2.out.trans k_); clear k_ l_)
    | (go_at_call 7; (have h_ := same_any L na ra nc rc w3 (N2.out.kept HK3.out) R3.out (by rw [HLN.out]; decide)); rw [HLN.out] at h_; (refine h_.mono ?_); rintro e w4 ⟨rfl, k_⟩; have K4 := Lib.hid (K3.out.trans k_); have N4 := Lib.hid ((N2.out.kept HK3.out).kept k_); clear k_ h_))
  by_cases hneg : which < 0
  · have e1 : decide (which < 0) = true := decide_eq_true hneg
    go_wp2_with fail
    go_ret
    exact ⟨rfl, K4.out⟩
  have e1 : decide (which < 0) = false := decide_eq_false hneg
  by_cases hbig : 29 ≤ which
  · have e2 : decide ((29 : Int) ≤ which) = true := decide_eq_true hbig
    go_wp2_with fail
    go_ret
    exact ⟨rfl, K4.out⟩
  have e2 : decide ((29 : Int) ≤ which) = false := decide_eq_false hbig
  obtain ⟨j, rfl⟩ : ∃ j : Nat, which = (j : Int) := ⟨which.toNat, by omega⟩
  have hj : j < L.length := by rw [HLN.out]; omega
  have bj : (j : Int) < (29 : Int) := by omega
  have hj29 : j < 29 := by omega
  obtain ⟨x, l, hxs, hrd, hck, hll, hT1, hT2⟩ := H3.out j hj
  have HT1 := Lib.hid hT1; have HT2 := Lib.hid hT2; have HRD := Lib.hid hrd; have HCK := Lib.hid hck; have HLL := Lib.hid hll; have HXS := Lib.hid hxs
  obtain ⟨g, o, rfl, hg, hc⟩ := N4.out
  have qj := hc j hj
  obtain ⟨nj, hnj⟩ : ∃ n, n = L[j] := ⟨_, rfl⟩
  rw [← hnj] at qj HT1 HT2
  have GL := Lib.hid hg; have QJ := Lib.hid qj
  clear hc hg hneg hbig hnj hrd hck hll hT1 hT2 hxs
  have hfld : ∀ wx, (Instr.field 30 (.agg #[.int .i64 0, .int .i64 0]) 0).run Tryz.prog wx = .ok (.int .i64 0) wx := fun _ => by kernel_rfl
  go_upto_region 10 with (first
    | (go_at_call 4; (refine (HT1.out w4).mono ?_); rintro e w5 ⟨rfl, k_⟩; have K5 := Lib.hid (K4.out.trans k_); have q5 := (k_.cell GL.out (fun h => h)).trans QJ.out; clear k_)
    | (go_at_call 5; (refine (HT2.out w5).mono ?_); rintro e w' ⟨rfl, hw_⟩; obtain rfl := hw_.symm))
  clear q5 qj
  go_upto_region 11 with (go_at_call 9; (refine (readS_any x w5 (by have := HXS.out; omega) (HM.out.kept K5.out (fun h => h)) (rng_kept HR.out K5.out)).mono ?_); intro e w6 h_; obtain ⟨k_, h_⟩ := h_; rw [HRD.out] at h_; unfold flV at h_; obtain ⟨la, lc, S, rfl, hs_, hb_⟩ := h_; have K6 := Lib.hid (K5.out.trans k_); have LS := Lib.hid hs_; have LB := Lib.hid hb_; clear k_ hs_ hb_)
  obtain ⟨w7, hw7⟩ : ∃ w7, w7 = w6.alloc (.cells #[.int .i64 0, .int .i64 0] 30) := ⟨_, rfl⟩
  have k7 : Kept Nix w6 w7 := by rw [hw7]; exact (Kept.refl _ _).alloc _
  have F7 : Hid (Fl w6.heap.size 0 0 w7) := by rw [hw7]; exact heap_alloc_new w6 _
  obtain ⟨M, hM⟩ : ∃ M, M = w6.heap.size := ⟨_, rfl⟩
  have hSS : Safe S Nix w6.heap.size := fun b hb => ⟨(LB.out b hb).2, fun h => h⟩
  have HCHK := Lib.hid (check_any l la lc S w7 (LS.out.to k7 hSS (fun _ h => h)) (hSS.mono k7.size) (by have := HLL.out; omega))
  rw [HCK.out] at HCHK
  rw [← hM] at F7
  rw [← hw7, ← hM]
  have K7 := Lib.hid (K6.out.trans k7)
  obtain ⟨f0, f1, f2, f3⟩ := F7.out.cells
  clear hw7 k7 hM hSS
  go_wp2_with (go_at_call 10; (refine HCHK.out.mono ?_); rintro e w8 ⟨rfl, k_⟩; have K8 := Lib.hid (K7.out.trans k_); clear k_)
  go_ret
  exact ⟨rfl, K8.out⟩
end Go.Proofs.YtlnhcgihpclpaaaGreatDoor

namespace Go.Proofs.YtlnhcgihpclpaaaGreatDoor
set_option linter.all false
open Go.RowKit Go.ChangeShapes Go.WideShapes Go.ChangeAt Go.ChangeMaps

theorem own_knob : ownKnob Tryz.prog.godebug = none := by kernel_rfl
theorem laid_out : laidOutB Tryz.prog = true := by kernel_rfl

section
variable {H : Type} {enc : TypeId × Value → H}
theorem trodAll_stays {W W' : World} (hb : Below W.heap.size W W') {sp : Nat → Bool} : ∀ {ts : List TypeId} {vs : List Value} {ds : List (DataW H)} {ps : List MemPlace},
    (∀ t ∈ ts, Tryz.prog.readableRec t = true ∧ t < Tryz.prog.types.size) → DataW.TrodAll enc Tryz.prog W 0 (fun _ => true) true ts vs ds ps → (∀ x ∈ ps, x.block < W.heap.size) → (∀ x ∈ ps, sp x.block = true) →
    DataW.TrodAll enc Tryz.prog W' 0 sp true ts vs ds ps
  | [], [], [], _, _, h, _, _ => h
  | _ :: _, _ :: _, _ :: _, _, ht, ⟨p, q, h1, h2, e⟩, hl, hs =>
    ⟨p, q, WideElems.Trod_stays laid_out (ht _ (by simp)).1 (ht _ (by simp)).2 h1 (fun x hx => hb.same (hl x (by rw [e]; exact List.mem_append_left _ hx))) (fun x hx => hs x (by rw [e]; exact List.mem_append_left _ hx)),
      trodAll_stays hb (fun t h => ht t (by simp [h])) h2 (fun x hx => hl x (by rw [e]; exact List.mem_append_right _ hx)) (fun x hx => hs x (by rw [e]; exact List.mem_append_right _ hx)), e⟩

set_option maxRecDepth 100000 in
theorem post_law {f : Func} {s : ChangeSpec} {apart fresh handsOn again : Bool} {W W' : World} {args : Array Value} {ds gs : List (DataW H)} {before : List MemPlace}
    (hW : DataW.Whole enc Tryz.prog f.params.toList s.vars apart W args.toList ds gs before) (hvars : s.vars = []) (hres : f.resultTypes = #[4])
    (hread : ∀ t ∈ f.params.toList, Tryz.prog.readableRec t = true ∧ t < Tryz.prog.types.size)
    (hfn : s.fn H ds = { results := [.lit (.bool true)], args := ds }) (hb : Below W.heap.size W W') :
    s.post enc Tryz.prog f apart fresh handsOn again W args (.bool true) W' := by
  have hlt : ∀ p ∈ before, p.block < W.heap.size := fun p hp => hW.lt p hp
  have hold : ∀ p ∈ before, (fun b => decide (b < W.heap.size)) p.block = true := fun p hp => by simpa using hlt p hp
  obtain ⟨p, q, hA0, hV, he, hz, hn⟩ := id hW
  rw [hvars] at hV
  obtain ⟨rfl, rfl⟩ := trodVars_none hV
  rw [List.append_nil] at he
  subst he
  have hA : DataW.TrodAll enc Tryz.prog W 0 (fun _ => true) true f.params.toList args.toList ds before := hA0
  have hr1 : ∀ (b : Nat) (sp : Nat → Bool) (hd : Bool), DataW.TrodAll enc Tryz.prog W' b sp hd f.resultTypes.toList ((Value.bool true).resultList f.resultTypes.size) (s.fn H (ds ++ [])).results [] := by
    intro b sp hd
    rw [List.append_nil, hfn, hres]
    exact trodAll_cons_mk (shut_bool Tryz.underlying4 _) trodAll_mk0
  have hargs : ∀ sp : Nat → Bool, (∀ p ∈ before, sp p.block = true) → DataW.TrodAll enc Tryz.prog W' 0 sp true f.params.toList args.toList (s.fn H (ds ++ [])).args before := by
    intro sp hsp
    rw [List.append_nil, hfn]
    exact trodAll_stays hb hread hA hlt hsp
  have hvr : ∀ sp : Nat → Bool, DataW.TrodVars enc Tryz.prog W' sp s.vars (s.fn H (ds ++ [])).vars [] := by
    intro sp
    rw [hvars, List.append_nil, hfn]; rfl
  refine ⟨ds, [], before, [], before, [], hW, hr1 _ _ _, hargs _ hold, hvr _, World.keptBut_mono (fun p hp => ⟨hp, .inr (.inl hp)⟩) (hb.frame (· ∈ before)), fun _ => ?_⟩
  refine ⟨?_, _, _, ([] ++ before) ++ [], ⟨[] ++ before, [], trodAll_append (hargs _ (fun _ _ => rfl)) (hr1 _ _ _), hvr _, rfl, ?_, ?_⟩, ?_⟩
  · exact ok_one hres rfl (okWide_bool_mk Tryz.underlying4 _)
  · intro b off hp
    have hin : MemPlace.cell b off ∈ before := by simpa using hp
    rw [hb.frozen (hlt _ hin)]
    exact hz b off hin
  · intro ha
    simpa using hn ha
  · intro p hp _
    simpa using hp
end
end Go.Proofs.YtlnhcgihpclpaaaGreatDoor
