/- The document's named: what is wrong with the names that a statement brings (printed by gen/nm.py, gen/nm_put.py). -/
import Derived.Test.YtkhhinmhgjicgaaExs
import Derived.Test.YtkhhinmhgjicgaaCm3
import Derived.BigQuiet
namespace Go.Proofs.Ytkhhinmhgjicgaa
set_option linter.all false
open Go.RowKit

/-- A function's own names: none is INPUT or OUTPUT, none is there twice. -/
def ownOkP (all : List ByteArray) : Prop := ∀ a (h : a < all.length), all[a].toList ≠ [73, 78, 80, 85, 84] ∧ all[a].toList ≠ [79, 85, 84, 80, 85, 84] ∧ ∀ b (hb : b < a), all[a] ≠ all[b]'(by omega)
def labelOk (l : List StT) (i : Nat) (s : StT) : Prop := s.label.size = 0 ∨ (keptF s.label = false ∧ labelF l s.label = i)
def funcOk (l : List StT) (i : Nat) (s : StT) : Prop := builtinF s.name < 0 ∧ funcF l s.name = i
def namedP (l : List StT) (i : Nat) (s : StT) : Prop := labelOk l i s ∧ (s.kind = 7 → funcOk l i s ∧ ownOkP (s.name :: s.params ++ s.locals))
def PropQ (P : Prop) (w : World) (e : Ending) (w' : World) : Prop := ∃ b : Bool, e = .returned (.bool b) ∧ (b = true ↔ P) ∧ Kept Nix w w'

set_option maxRecDepth 100000 in
set_option maxHeartbeats 4000000 in
theorem refNamed_st (l : List StT) (al : Option Addr) (cl : Nat) (i : Nat) (hi : i < l.length) (S : Nat → Prop) (w : World) (hl : StsAt w S al l) (hS : Safe S Nix w.heap.size) (hlen : l.length ≤ 1048576) :
    Calls Try.prog 14 #[.slice al l.length cl, .int .i64 i] w (PropQ (namedP l i l[i]) w) := by
  have HL := Lib.hid hl; have HS := Lib.hid hS
  obtain ⟨b, o, rfl, hc⟩ := hl (by omega)
  obtain ⟨a, _, hz, hcc, ho⟩ := hc i hi
  obtain ⟨s, hs⟩ : ∃ s, s = l[i] := ⟨_, rfl⟩
  rw [← hs] at hz hcc ho ⊢
  have HZ := Lib.hid hz; have HO := Lib.hid ho
  clear hl hS hc hz ho hs
  go_enter Try.func14, Try.ntmps14
  go_upto_region 2 with (first
    | (refine wpList_load_st rfl _ rfl b (o + i * 24) rfl a s hcc ?_)
    | (refine wpList_store_st rfl _ _ rfl w.heap.size rfl a s rfl _ (heap_alloc_new w _) rfl ?_; intro w1 hB1 hk1))
  try dsimp only [Act.put]
  have K1 : Hid (Kept Nix w w1) := ((Kept.refl Nix w).alloc _).step hk1 (fun y hy => .inr (by subst hy; exact Nat.le_refl _))
  have HB1 := Lib.hid hB1
  have O1 : Hid (StOk w1 S a s) := HO.out.to K1.out HS.out (fun _ h => h)
  have L1 : Hid (StsAt w1 S (some ⟨b, o, none⟩) l) := HL.out.to K1.out HS.out (fun _ h => h)
  have S1 : Hid (Safe S Nix w1.heap.size) := HS.out.mono K1.out.size
  obtain ⟨c0, c1, _, _, _, _, _, _, _, _, _, _, _, _, _, _, _, c17, _⟩ := hB1.cells
  clear hB1 hk1 hcc HL
  have hkl : s.label.size ≤ maxLen := by have := HZ.out.label; unfold maxLen; omega
  go_cut [28] (fun c wx => ∃ b1 : Bool, c = .bool b1 ∧ (b1 = false ↔ labelOk l i s) ∧ Kept Nix w1 wx)
  case first =>
    by_cases h0 : s.label.size = 0
    · have e1 : s.label.toList.isEmpty = true := isEmpty_size.2 h0
      have fin : Hid (labelOk l i s) := by unfold Hid labelOk; simp [h0]
      clear h0
      go_wp2_with fail
      go_meet
      exact ⟨false, rfl, ⟨fun _ => fin.out, fun _ => rfl⟩, Kept.refl _ _⟩
    have e1 : s.label.toList.isEmpty = false := isEmpty_size'.2 (by omega)
    cases hk : keptF s.label with
    | true =>
      have fin : Hid (¬ labelOk l i s) := by unfold Hid labelOk; simp [h0, hk]
      have HK := Lib.hid hk
      clear h0 hk
      go_wp2_with (go_at_call 35; (with_reducible refine (refKept_any _ _).mono ?_); rintro e w' ⟨rfl, rfl⟩; rw [HK.out])
      go_meet
      exact ⟨true, rfl, ⟨fun h => (by cases h), fun h => absurd h fin.out⟩, Kept.refl _ _⟩
    | false =>
      have HK := Lib.hid hk
      by_cases hq : labelF l s.label = i
      · have fin : Hid (labelOk l i s) := by unfold Hid labelOk; simp [h0, hk, hq]
        have e2 : (labelF l s.label != (i : Int)) = false := by simpa using hq
        clear h0 hk hq
        go_wp2_with (first
          | (go_at_call 35; (with_reducible refine (refKept_any _ _).mono ?_); rintro e w' ⟨rfl, rfl⟩; rw [HK.out])
          | (go_at_call 22; (with_reducible refine (label_any l _ cl s.label S _ L1.out S1.out hlen).mono ?_); rintro e w2 ⟨rfl, k_⟩; have K2 := Lib.hid k_; clear k_))
        go_meet
        exact ⟨false, rfl, ⟨fun _ => fin.out, fun _ => rfl⟩, K2.out⟩
      · have fin : Hid (¬ labelOk l i s) := by unfold Hid labelOk; simp [h0, hk, hq]
        have e2 : (labelF l s.label != (i : Int)) = true := by simpa using hq
        clear h0 hk hq
        go_wp2_with (first
          | (go_at_call 35; (with_reducible refine (refKept_any _ _).mono ?_); rintro e w' ⟨rfl, rfl⟩; rw [HK.out])
          | (go_at_call 22; (with_reducible refine (label_any l _ cl s.label S _ L1.out S1.out hlen).mono ?_); rintro e w2 ⟨rfl, k_⟩; have K2 := Lib.hid k_; clear k_))
        go_meet
        exact ⟨true, rfl, ⟨fun h => (by cases h), fun h => absurd h fin.out⟩, K2.out⟩
  case rest =>
    obtain ⟨b1, rfl, hb1, hk2⟩ := hcut
    have K2 := Lib.hid hk2
    obtain ⟨c0, c1, _, _, _, _, _, _, _, _, _, _, _, _, _, _, _, c17, _⟩ := (HB1.out.kept hk2 (fun h => h)).cells
    clear hk2
    cases b1 with
    | true =>
      have fin : Hid (¬ namedP l i s) := fun h => (by have := hb1.2 h.1; cases this)
      clear hb1
      go_wp2_with fail
      go_ret
      exact ⟨false, rfl, ⟨fun h => (by cases h), fun h => absurd h fin.out⟩, K1.out.trans K2.out⟩
    | false =>
      have HLO : Hid (labelOk l i s) := hb1.1 rfl
      clear hb1
      by_cases hk7 : s.kind = 7
      rotate_left
      · have fin : Hid (namedP l i s) := ⟨HLO.out, fun h => absurd h hk7⟩
        have e1 : (s.kind != 7) = true := by simpa using hk7
        clear hk7
        go_wp2_with fail
        go_ret
        exact ⟨true, rfl, ⟨fun _ => fin.out, fun _ => rfl⟩, K1.out.trans K2.out⟩
      have HNP : Hid (namedP l i s ↔ funcOk l i s ∧ ownOkP (s.name :: s.params ++ s.locals)) := by unfold Hid namedP; simp [HLO.out, hk7]
      have e1 : (s.kind != 7) = false := by simpa using hk7
      clear hk7
      go_upto_region 6 with fail
      go_cut [43] (fun c wx => ∃ b1 : Bool, c = .bool b1 ∧ (b1 = false ↔ funcOk l i s) ∧ Kept Nix w1 wx)
      case first =>
        by_cases hn : builtinF s.name < 0
        · have e2 : decide (0 ≤ builtinF s.name) = false := decide_eq_false (by omega)
          by_cases hq : funcF l s.name = i
          · have fin : Hid (funcOk l i s) := by unfold Hid funcOk; simp [hn, hq]
            have e3 : (funcF l s.name != (i : Int)) = false := by simpa using hq
            clear hn hq
            go_wp2_with (first
              | (go_at_call 8; (with_reducible refine (args_any _ _).mono ?_); rintro e w3 ⟨rfl, k_⟩; have K3 := Lib.hid (K2.out.trans k_); obtain ⟨d0, d1, _, _, _, _, _, _, _, _, _, _, _, _, _, _, _, d17, _⟩ := (HB1.out.kept K3.out (fun h => h)).cells; clear k_)
              | (go_at_call 23; (with_reducible refine (func_any l _ cl s.name S _ (L1.out.to K3.out S1.out (fun _ h => h)) (S1.out.mono K3.out.size) hlen).mono ?_); rintro e w4 ⟨rfl, k_⟩; have K4 := Lib.hid (K3.out.trans k_); clear k_))
            go_meet
            exact ⟨false, rfl, ⟨fun _ => fin.out, fun _ => rfl⟩, K4.out⟩
          · have fin : Hid (¬ funcOk l i s) := by unfold Hid funcOk; simp [hn, hq]
            have e3 : (funcF l s.name != (i : Int)) = true := by simpa using hq
            clear hn hq
            go_wp2_with (first
              | (go_at_call 8; (with_reducible refine (args_any _ _).mono ?_); rintro e w3 ⟨rfl, k_⟩; have K3 := Lib.hid (K2.out.trans k_); obtain ⟨d0, d1, _, _, _, _, _, _, _, _, _, _, _, _, _, _, _, d17, _⟩ := (HB1.out.kept K3.out (fun h => h)).cells; clear k_)
              | (go_at_call 23; (with_reducible refine (func_any l _ cl s.name S _ (L1.out.to K3.out S1.out (fun _ h => h)) (S1.out.mono K3.out.size) hlen).mono ?_); rintro e w4 ⟨rfl, k_⟩; have K4 := Lib.hid (K3.out.trans k_); clear k_))
            go_meet
            exact ⟨true, rfl, ⟨fun h => (by cases h), fun h => absurd h fin.out⟩, K4.out⟩
        · have fin : Hid (¬ funcOk l i s) := by unfold Hid funcOk; simp [hn]
          have e2 : decide (0 ≤ builtinF s.name) = true := decide_eq_true (by omega)
          clear hn
          go_wp2_with (go_at_call 8; (with_reducible refine (args_any _ _).mono ?_); rintro e w3 ⟨rfl, k_⟩; have K3 := Lib.hid (K2.out.trans k_); clear k_)
          go_meet
          exact ⟨true, rfl, ⟨fun h => (by cases h), fun h => absurd h fin.out⟩, K3.out⟩
      case rest =>
        obtain ⟨b1, rfl, hb1, hk3⟩ := hcut
        cases b1 with
        | true =>
          have fin : Hid (¬ namedP l i s) := fun h => (by have := hb1.2 (HNP.out.1 h).1; cases this)
          have K3 := Lib.hid hk3
          clear hb1 hk3
          go_wp2_with fail
          go_ret
          exact ⟨false, rfl, ⟨fun h => (by cases h), fun h => absurd h fin.out⟩, K1.out.trans K3.out⟩
        | false =>
          have HPQ : Hid (namedP l i s ↔ ownOkP (s.name :: s.params ++ s.locals)) := by unfold Hid; rw [HNP.out]; simp [hb1.1 rfl]
          obtain ⟨w3, hw3, K3⟩ : ∃ w3, w3 = _ ∧ Hid (Kept Nix w1 w3) := ⟨_, rfl, hk3⟩
          rw [← hw3]
          clear hb1 hk3 c0 c1 c17 hw3
          go_upto_region 8 with fail
          have hNX : ¬ w3.heap.size ≤ w.heap.size := by have := HB1.out.lt; have := K3.out.size; omega
          have hw3 : w1.heap.size ≤ w3.heap.size := K3.out.size
          have SX : Hid (Safe S (fun b => w3.heap.size ≤ b) w3.heap.size) := fun b hb => by have := (S1.out b hb).1; exact ⟨by omega, by omega⟩
          have O4 : Hid (StOk w3 S a s) := O1.out.to K3.out S1.out (fun _ h => h)
          obtain ⟨Sp, hSp⟩ : ∃ Sp : Nat → Value → World → Prop, Sp = (fun i v _ => match i with
            | 0 => v = .pointer (some ⟨w.heap.size, 17, none⟩)
            | 1 => v = .string s.name
            | 3 => v = .pointer (some ⟨w.heap.size, 19, none⟩)
            | 4 => v = .slice a.ma s.params.length a.mc
            | 6 => v = .pointer (some ⟨w.heap.size, 20, none⟩)
            | 7 => v = .slice a.la s.locals.length a.lc
            | _ => True) := ⟨_, rfl⟩
          obtain ⟨J, hJd⟩ : ∃ J : (Nat → Bool) → (Nat → Value) → World → Prop, J = (fun l f wx => RowC w3.heap.size 1 (1 + s.params.length) (1 + s.params.length + s.locals.length) ([.string s.name]) ([.string s.name] ++ s.params.map Value.string) (([.string s.name] ++ s.params.map Value.string) ++ s.locals.map Value.string) (l 2) (l 5) (l 8) (f 46) (f 49) (f 52) wx ∧ (l 9 = true → f 6 = f 52)) := ⟨_, rfl⟩
          refine wp_specsX2 (fun b => w3.heap.size ≤ b) J Sp [44, 45, 46, 47, 48, 49, 50, 51, 52, 6] (by kernel_rfl) (by kernel_rfl) (by kernel_rfl) (fun i v w w' h hk => by subst hSp; exact h) ?_ ?_ ?_ ?_
          · intro i o hi lq x wy hI hJ hlf haft
            rw [hJd] at hJ
            have e5 : x.eval (.tmp 5) = .pointer (some ⟨w.heap.size, 0, none⟩) := hI.keep 5 _ rfl (by kernel_rfl)
            have hsz : x.tmps.size = 88 := hI.size
            have B3 := (HB1.out.kept K3.out (fun h => h)).kept hI.kept hNX
            have O3 := O4.out.to hI.kept SX.out (fun _ h => h)
            obtain ⟨c0, c1, c2, c3, c4, c5, c6, c7, c8, c9, c10, c11, c12, c13, c14, c15, c16, c17, c18, c19, c20, c21, c22, c23⟩ := B3.cells
            have hjn : ∀ l' : Nat → Bool, (∀ j, l' j = true ↔ j = i ∨ lq j = true) → ∀ (d : Nat) (v : Value), o.dst = some d → (i ≠ 2 ∧ i ≠ 5 ∧ i ≠ 8 ∧ i ≠ 9) → (d ≠ 46 ∧ d ≠ 49 ∧ d ≠ 52 ∧ d ≠ 6) → J l' (fun t => (x.put o.dst v).tmps.getD t undef) wy := by
              intro l' hl d v hd hi hd2
              rw [hd, hJd]
              show RowC w3.heap.size 1 (1 + s.params.length) (1 + s.params.length + s.locals.length) ([.string s.name]) ([.string s.name] ++ s.params.map Value.string) (([.string s.name] ++ s.params.map Value.string) ++ s.locals.map Value.string) (l' 2) (l' 5) (l' 8) ((fun t => (x.put (some d) v).tmps.getD t undef) 46) ((fun t => (x.put (some d) v).tmps.getD t undef) 49) ((fun t => (x.put (some d) v).tmps.getD t undef) 52) wy ∧ (l' 9 = true → (fun t => (x.put (some d) v).tmps.getD t undef) 6 = (fun t => (x.put (some d) v).tmps.getD t undef) 52)
              rw [upd_ne hl 2 (Ne.symm hi.1), upd_ne hl 5 (Ne.symm hi.2.1), upd_ne hl 8 (Ne.symm hi.2.2.1), upd_ne hl 9 (Ne.symm hi.2.2.2)]
              dsimp only
              rw [put_ne x d 46 v hd2.1, put_ne x d 49 v hd2.2.1, put_ne x d 52 v hd2.2.2.1, put_ne x d 6 v hd2.2.2.2]
              exact hJ
            rcases i with _ | _ | _ | _ | _ | _ | _ | _ | _ | _ | i
            all_goals (simp only [List.getElem?_toArray, List.getElem?_cons_zero, List.getElem?_cons_succ, List.getElem?_nil, Option.some.injEq, reduceCtorEq] at hi)
            all_goals subst hi
            · refine opX_val (v := .pointer (some ⟨w.heap.size, 17, none⟩)) ?_ (by subst hSp; exact rfl) (fun l' hl => hjn l' hl 44 _ rfl (by decide) (by decide))
              simp only [execOp, resolve, invoke, List.map_toArray, List.map_cons, List.map_nil, e5]; go_simp
            · have d44 : x.eval (.tmp 44) = .pointer (some ⟨w.heap.size, 17, none⟩) := by have h_ := hI.dep haft 0 44 rfl rfl rfl; rw [hSp] at h_; exact h_
              refine opX_val (v := .string s.name) ?_ (by subst hSp; exact rfl) (fun l' hl => hjn l' hl 45 _ rfl (by decide) (by decide))
              simp only [execOp, resolve, invoke, List.map_toArray, List.map_cons, List.map_nil, d44]; go_simp
            · have d45 : x.eval (.tmp 45) = .string s.name := by have h_ := hI.dep haft 1 45 rfl rfl rfl; rw [hSp] at h_; exact h_
              have n5 := hI.no hlf 5 rfl rfl
              have n8 := hI.no n5 8 rfl rfl
              have n9 := hI.no n8 9 rfl rfl
              rw [hlf, n5, n8] at hJ
              refine opX_new (v := .slice (some ⟨wy.heap.size, 0, none⟩) 1 1) (w' := wy.alloc (.cells #[.string s.name] 9)) ?_ (by subst hSp; trivial) ((Kept.refl _ _).alloc _) (fun l' hl => ?_)
              · simp only [execOp, resolve, invoke, List.map_toArray, List.map_cons, List.map_nil, d45]; go_simp
              · rw [hJd]
                show RowC w3.heap.size 1 (1 + s.params.length) (1 + s.params.length + s.locals.length) ([.string s.name]) ([.string s.name] ++ s.params.map Value.string) (([.string s.name] ++ s.params.map Value.string) ++ s.locals.map Value.string) (l' 2) (l' 5) (l' 8) ((fun t => (x.put (some 46) _).tmps.getD t undef) 46) ((fun t => (x.put (some 46) _).tmps.getD t undef) 49) ((fun t => (x.put (some 46) _).tmps.getD t undef) 52) _ ∧ (l' 9 = true → (fun t => (x.put (some 46) _).tmps.getD t undef) 6 = (fun t => (x.put (some 46) _).tmps.getD t undef) 52)
                dsimp only
                rw [upd_self hl, upd_ne hl 5 (by decide), upd_ne hl 8 (by decide), upd_ne hl 9 (by decide), put_self x 46 _ (by rw [hsz]; decide), put_ne x 46 49 _ (by decide), put_ne x 46 52 _ (by decide), put_ne x 46 6 _ (by decide)]
                rw [n5, n8, n9]
                exact ⟨hJ.1.op0 (Ch.row (l := [.string s.name]) hJ.1.base (fun _ _ => trivial) (by simp)), fun h => by cases h⟩
            · refine opX_val (v := .pointer (some ⟨w.heap.size, 19, none⟩)) ?_ (by subst hSp; exact rfl) (fun l' hl => hjn l' hl 47 _ rfl (by decide) (by decide))
              simp only [execOp, resolve, invoke, List.map_toArray, List.map_cons, List.map_nil, e5]; go_simp
            · have d47 : x.eval (.tmp 47) = .pointer (some ⟨w.heap.size, 19, none⟩) := by have h_ := hI.dep haft 3 47 rfl rfl rfl; rw [hSp] at h_; exact h_
              refine opX_val (v := .slice a.ma s.params.length a.mc) ?_ (by subst hSp; exact rfl) (fun l' hl => hjn l' hl 48 _ rfl (by decide) (by decide))
              simp only [execOp, resolve, invoke, List.map_toArray, List.map_cons, List.map_nil, d47]; go_simp
            · have t2 := dep_done haft 2 rfl
              have n8 := hI.no hlf 8 rfl rfl
              have n9 := hI.no n8 9 rfl rfl
              have d48 : x.eval (.tmp 48) = .slice a.ma s.params.length a.mc := by have h_ := hI.dep haft 4 48 rfl rfl rfl; rw [hSp] at h_; exact h_
              rw [t2, hlf, n8] at hJ
              refine opX_app (n := 1) (xs := [.string s.name]) _ _ rfl rfl (hJ.1.h0 rfl rfl) (.slice a.ma s.params.length a.mc) (s.params.length) (s.params.map Value.string) d48 (strs_src O3.params _) (by have := HZ.out.params.1; have := HZ.out.locals.1; omega) hJ.1.base (fun _ h => h) (fun _ _ => by subst hSp; trivial) ?_
              intro v' w' hC hgr hoo l' hl
              rw [hJd]
              show RowC w3.heap.size 1 (1 + s.params.length) (1 + s.params.length + s.locals.length) ([.string s.name]) ([.string s.name] ++ s.params.map Value.string) (([.string s.name] ++ s.params.map Value.string) ++ s.locals.map Value.string) (l' 2) (l' 5) (l' 8) ((fun t => (x.put (some 49) _).tmps.getD t undef) 46) ((fun t => (x.put (some 49) _).tmps.getD t undef) 49) ((fun t => (x.put (some 49) _).tmps.getD t undef) 52) _ ∧ (l' 9 = true → (fun t => (x.put (some 49) _).tmps.getD t undef) 6 = (fun t => (x.put (some 49) _).tmps.getD t undef) 52)
              dsimp only
              rw [upd_self hl, upd_ne hl 2 (by decide), upd_ne hl 8 (by decide), upd_ne hl 9 (by decide), put_self x 49 _ (by rw [hsz]; decide), put_ne x 49 46 _ (by decide), put_ne x 49 52 _ (by decide), put_ne x 49 6 _ (by decide)]
              rw [t2, n8, n9]
              exact ⟨hJ.1.op1 hC hgr.size, fun h => by cases h⟩
            · refine opX_val (v := .pointer (some ⟨w.heap.size, 20, none⟩)) ?_ (by subst hSp; exact rfl) (fun l' hl => hjn l' hl 50 _ rfl (by decide) (by decide))
              simp only [execOp, resolve, invoke, List.map_toArray, List.map_cons, List.map_nil, e5]; go_simp
            · have d50 : x.eval (.tmp 50) = .pointer (some ⟨w.heap.size, 20, none⟩) := by have h_ := hI.dep haft 6 50 rfl rfl rfl; rw [hSp] at h_; exact h_
              refine opX_val (v := .slice a.la s.locals.length a.lc) ?_ (by subst hSp; exact rfl) (fun l' hl => hjn l' hl 51 _ rfl (by decide) (by decide))
              simp only [execOp, resolve, invoke, List.map_toArray, List.map_cons, List.map_nil, d50]; go_simp
            · have t5 := dep_done haft 5 rfl
              have n9 := hI.no hlf 9 rfl rfl
              have d51 : x.eval (.tmp 51) = .slice a.la s.locals.length a.lc := by have h_ := hI.dep haft 7 51 rfl rfl rfl; rw [hSp] at h_; exact h_
              have t2 : lq 2 = true := hI.closed 5 _ rfl t5 _ (by first | exact List.mem_toArray.2 (.head _) | exact List.mem_toArray.2 (.tail _ (.head _)) | exact List.mem_toArray.2 (.tail _ (.tail _ (.head _)))) rfl
              rw [t2, t5, hlf] at hJ
              refine opX_app (n := (1 + s.params.length)) (xs := [.string s.name] ++ s.params.map Value.string) _ _ rfl rfl (hJ.1.h1 rfl rfl) (.slice a.la s.locals.length a.lc) (s.locals.length) (s.locals.map Value.string) d51 (strs_src O3.locals _) (by have := HZ.out.params.1; have := HZ.out.locals.1; omega) hJ.1.base (fun _ h => h) (fun _ _ => by subst hSp; trivial) ?_
              intro v' w' hC hgr hoo l' hl
              rw [hJd]
              show RowC w3.heap.size 1 (1 + s.params.length) (1 + s.params.length + s.locals.length) ([.string s.name]) ([.string s.name] ++ s.params.map Value.string) (([.string s.name] ++ s.params.map Value.string) ++ s.locals.map Value.string) (l' 2) (l' 5) (l' 8) ((fun t => (x.put (some 52) _).tmps.getD t undef) 46) ((fun t => (x.put (some 52) _).tmps.getD t undef) 49) ((fun t => (x.put (some 52) _).tmps.getD t undef) 52) _ ∧ (l' 9 = true → (fun t => (x.put (some 52) _).tmps.getD t undef) 6 = (fun t => (x.put (some 52) _).tmps.getD t undef) 52)
              dsimp only
              rw [upd_self hl, upd_ne hl 2 (by decide), upd_ne hl 5 (by decide), upd_ne hl 9 (by decide), put_self x 52 _ (by rw [hsz]; decide), put_ne x 52 46 _ (by decide), put_ne x 52 49 _ (by decide), put_ne x 52 6 _ (by decide)]
              rw [t2, t5, n9]
              exact ⟨hJ.1.op2 hC hgr.size, fun h => by cases h⟩
            · have t8 := dep_done haft 8 rfl
              rw [t8] at hJ
              obtain ⟨aa, cc, hv, _⟩ := hJ.1.h2 rfl
              have hv2 : x.eval (.tmp 52) = .slice aa (1 + s.params.length + s.locals.length) cc := hv
              refine opX_val (v := .slice aa (1 + s.params.length + s.locals.length) cc) ?_ (by subst hSp; trivial) (fun l' hl => ?_)
              · simp only [execOp, resolve, invoke, List.map_toArray, List.map_cons, List.map_nil, hv2]; go_simp
              · rw [hJd]
                show RowC w3.heap.size 1 (1 + s.params.length) (1 + s.params.length + s.locals.length) ([.string s.name]) ([.string s.name] ++ s.params.map Value.string) (([.string s.name] ++ s.params.map Value.string) ++ s.locals.map Value.string) (l' 2) (l' 5) (l' 8) ((fun t => (x.put (some 6) _).tmps.getD t undef) 46) ((fun t => (x.put (some 6) _).tmps.getD t undef) 49) ((fun t => (x.put (some 6) _).tmps.getD t undef) 52) _ ∧ (l' 9 = true → (fun t => (x.put (some 6) _).tmps.getD t undef) 6 = (fun t => (x.put (some 6) _).tmps.getD t undef) 52)
                dsimp only
                rw [upd_self hl, upd_ne hl 2 (by decide), upd_ne hl 5 (by decide), upd_ne hl 8 (by decide), put_self x 6 _ (by rw [hsz]; decide), put_ne x 6 46 _ (by decide), put_ne x 6 49 _ (by decide), put_ne x 6 52 _ (by decide)]
                rw [t8]
                exact ⟨hJ.1, fun _ => hv.symm⟩
          · intro lq hl
            rw [hJd]
            dsimp only
            rw [hl 2 (by decide), hl 5 (by decide), hl 8 (by decide), hl 9 (by decide)]
            exact ⟨⟨Nat.le_refl _, fun h => by (cases h), fun h => by (cases h), fun h => by (cases h)⟩, fun h => by cases h⟩
          · intro lq l' f wx hl h
            rw [hJd] at h ⊢
            show RowC w3.heap.size 1 (1 + s.params.length) (1 + s.params.length + s.locals.length) ([.string s.name]) ([.string s.name] ++ s.params.map Value.string) (([.string s.name] ++ s.params.map Value.string) ++ s.locals.map Value.string) (l' 2) (l' 5) (l' 8) (f 46) (f 49) (f 52) wx ∧ (l' 9 = true → f 6 = f 52)
            rw [← hl 2 (by decide), ← hl 5 (by decide), ← hl 8 (by decide), ← hl 9 (by decide)]
            exact h
          · intro f wy hK hS hJ
            rw [hJd] at hJ
            obtain ⟨a5, c_5, e52, HW5⟩ := hJ.1.h2 rfl
            have e6 : f 6 = .slice a5 (1 + s.params.length + s.locals.length) c_5 := (hJ.2 rfl).trans e52
            try dsimp only at e52
            obtain ⟨lst, hlst⟩ : ∃ lst, lst = s.name :: s.params ++ s.locals := ⟨_, rfl⟩
            have hN : 1 + s.params.length + s.locals.length = lst.length := by rw [hlst]; simp; omega
            rw [hN] at e6 e52 HW5
            rw [show ([Value.string s.name] ++ s.params.map Value.string) ++ s.locals.map Value.string = lst.map Value.string by rw [hlst]; simp] at HW5
            have HW := Lib.hid HW5
            have K5 : Hid (Kept Nix w wy) := (K1.out.trans K3.out).step hK (fun y hy => .inr (by have : w3.heap.size ≤ y := hy; have := K1.out.size; omega))
            have hLl : lst.length ≤ 4000000000 := by rw [← hN]; have := HZ.out.params.1; have := HZ.out.locals.1; omega
            have HQ : Hid (namedP l i s ↔ ownOkP lst) := by rw [hlst]; exact HPQ.out
            clear hJ hS hK HW5 hlst hN SX O4 hJd hSp hNX hw3 HPQ
            simp only [setAll, List.foldl_cons, List.foldl_nil, List.setIfInBounds_toArray, List.set_cons_zero, List.set_cons_succ, e6, e52]
            clear e6 e52
            go_wp2_with fail
            go_loopw [55] (fun i wr => ∃ j : Nat, j ≤ lst.length ∧ i = .int .i64 j ∧ Hid (∀ x (h : x < lst.length), x < j → lst[x].toList ≠ [73, 78, 80, 85, 84] ∧ lst[x].toList ≠ [79, 85, 84, 80, 85, 84] ∧ ∀ y (hy : y < x), lst[x] ≠ lst[y]'(by omega)) ∧ Kept Nix wy wr) (fun i _ => lst.length - (intOf i).toNat)
            case atStart => exact ⟨0, Nat.zero_le _, rfl, by intro x _ hx; omega, Kept.refl _ _⟩
            case round =>
              obtain ⟨j, hj, rfl, hno, hkw⟩ := hrel
              have KX := Lib.hid hkw
              have K6 := Lib.hid (K5.out.trans hkw)
              by_cases hlt : j < lst.length
              · rcases (HW.out.kept hkw (fun _ _ h => h)).cells with ⟨hv, h0⟩ | ⟨g, oo, cap, hv, _, hgl, hcap, hcm, hc⟩
                · omega
                · simp only [Value.slice.injEq, true_and] at hv
                  obtain ⟨rfl, rfl⟩ := hv
                  have HC : Hid (∀ x (h : x < lst.length), wr.cell? ⟨g, oo + x, none⟩ = some (.string lst[x])) := fun x h => (hc x (.string lst[x]) (by rw [List.getElem?_map, List.getElem?_eq_getElem h]; rfl)).1
                  have hcj := HC.out j hlt
                  have hjc : j ≤ c_5 := by omega
                  clear hc hkw
                  by_cases hI1 : lst[j].toList = [73, 78, 80, 85, 84]
                  · have fin : Hid (¬ namedP l i s) := fun h => (HQ.out.1 h j hlt).1 hI1
                    have f1 : (lst[j].toList == [73, 78, 80, 85, 84]) = true := by simpa using hI1
                    clear hI1
                    go_wp2_with fail
                    go_ret
                    exact ⟨false, rfl, ⟨fun h => (by cases h), fun h => absurd h fin.out⟩, K6.out⟩
                  have f1 : (lst[j].toList == [73, 78, 80, 85, 84]) = false := by simpa using hI1
                  by_cases hI2 : lst[j].toList = [79, 85, 84, 80, 85, 84]
                  · have fin : Hid (¬ namedP l i s) := fun h => (HQ.out.1 h j hlt).2.1 hI2
                    have f2 : (lst[j].toList == [79, 85, 84, 80, 85, 84]) = true := by simpa using hI2
                    clear hI1 hI2
                    go_wp2_with fail
                    go_ret
                    exact ⟨false, rfl, ⟨fun h => (by cases h), fun h => absurd h fin.out⟩, K6.out⟩
                  have f2 : (lst[j].toList == [79, 85, 84, 80, 85, 84]) = false := by simpa using hI2
                  have HI1 := Lib.hid hI1; have HI2 := Lib.hid hI2
                  clear hI1 hI2
                  go_wp2_with fail
                  go_loopw [74] (fun i wq => ∃ k : Nat, k ≤ j ∧ i = .int .i64 k ∧ Hid (∀ y (hy : y < j), y < k → lst[j] ≠ lst[y]'(by omega)) ∧ Kept Nix wr wq) (fun i _ => j - (intOf i).toNat)
                  case atStart => exact ⟨0, Nat.zero_le _, rfl, by intro y _ hy; omega, Kept.refl _ _⟩
                  case round =>
                    obtain ⟨k, hk, rfl, hnk, hkq⟩ := hrel
                    have KQ := Lib.hid hkq
                    have K7 := Lib.hid (K6.out.trans hkq)
                    by_cases hlk : k < j
                    · have hqj := (hkq.cell hgl (fun h => h)).trans hcj
                      have hqk := (hkq.cell hgl (fun h => h)).trans (HC.out k (by omega))
                      clear hkq
                      by_cases he : lst[j] = lst[k]
                      · have fin : Hid (¬ namedP l i s) := fun h => (HQ.out.1 h j hlt).2.2 k hlk he
                        have g1 : (lst[j].toList == lst[k].toList) = true := by rw [bytes_beq]; simpa using he
                        clear he
                        go_wp2_with fail
                        go_quiet (fail)
                        go_wp2_with fail
                        go_ret
                        exact ⟨false, rfl, ⟨fun h => (by cases h), fun h => absurd h fin.out⟩, K7.out.drewN _⟩
                      · have g1 : (lst[j].toList == lst[k].toList) = false := by rw [bytes_beq]; simpa using he
                        have step : Hid (∀ y (hy : y < j), y < k + 1 → lst[j] ≠ lst[y]'(by omega)) := by
                          intro y hy h1
                          rcases Nat.lt_or_ge y k with h2 | h2
                          · exact hnk.out y hy h2
                          · obtain rfl : y = k := by omega
                            exact he
                        clear he
                        go_wp2_with fail
                        go_quiet (fail)
                        go_wp2_with fail
                        go_roundw
                        case rel => exact ⟨k + 1, by omega, by go_num, step, KQ.out.drewN _⟩
                        case measure => simp [intOf]; omega
                    · obtain rfl : k = j := by omega
                      have step : Hid (∀ x (h : x < lst.length), x < k + 1 → lst[x].toList ≠ [73, 78, 80, 85, 84] ∧ lst[x].toList ≠ [79, 85, 84, 80, 85, 84] ∧ ∀ y (hy : y < x), lst[x] ≠ lst[y]'(by omega)) := by
                        intro x h h1
                        rcases Nat.lt_or_ge x k with h2 | h2
                        · exact hno.out x h h2
                        · obtain rfl : x = k := by omega
                          exact ⟨HI1.out, HI2.out, fun y hy => hnk.out y hy hy⟩
                      have K8 := Lib.hid (KX.out.trans hkq)
                      clear hkq
                      go_wp2_with fail
                      go_roundw
                      case rel => exact ⟨k + 1, by omega, by go_num, step, K8.out⟩
                      case measure => simp [intOf]; omega
              · obtain rfl : j = lst.length := by omega
                have fin : Hid (namedP l i s) := HQ.out.2 (fun x h => hno.out x h h)
                go_wp2_with fail
                go_ret
                exact ⟨true, rfl, ⟨fun _ => fin.out, fun _ => rfl⟩, K6.out⟩
end Go.Proofs.Ytkhhinmhgjicgaa
