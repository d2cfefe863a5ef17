/- The document's uses: what is wrong with what a statement speaks of. -/
import Derived.Test.YtkhhinmhgjicgaaNm
namespace Go.Proofs.Ytkhhinmhgjicgaa
set_option linter.all false
open Go.RowKit

def gotoBad (l : List StT) (n : ByteArray) : Prop := n.size ≠ 0 ∧ keptF n = false ∧ labelF l n < 0
instance (l : List StT) (n : ByteArray) : Decidable (gotoBad l n) := by unfold gotoBad; exact inferInstance
def goE (l : List StT) : List ByteArray → Int
  | [] => 0
  | n :: r => if gotoBad l n then 6 else goE l r
def gos (s : StT) : List ByteArray := [s.always, s.yes, s.noes]
/-- How many parameters the statement has at which a function is defined. -/
def paramsAt (l : List StT) (d : Int) : Nat := match l[d.toNat]? with | some t => t.params.length | none => 0
def callE (l : List StT) (x : PatT) : Int :=
  if x.kind ≠ 6 then 0
  else if 0 ≤ builtinF x.name ∧ builtinF x.name ≠ x.kids.length then 5
  else if builtinF x.name < 0 ∧ funcF l x.name < 0 then 7
  else if builtinF x.name < 0 ∧ paramsAt l (funcF l x.name) < x.kids.length then 5 else 0
def ndE (l : List StT) : List PatT → Int
  | [] => 0
  | y :: r => if callE l y = 0 then ndE l r else callE l y
def exE (l : List StT) : List PatT → Int
  | [] => 0
  | x :: r => if ndE l (allT x) = 0 then exE l r else ndE l (allT x)
def usesF (l : List StT) (s : StT) : Int := firstE [goE l (gos s), if s.kind = 7 ∧ labelF l s.entry < 0 then 6 else 0, exE l (exprsS s)]
theorem goE_drop (l : List StT) (g : List ByteArray) (j : Nat) (h : j < g.length) : goE l (g.drop j) = if gotoBad l g[j] then 6 else goE l (g.drop (j + 1)) := by
  rw [List.drop_eq_getElem_cons h, goE]
theorem ndE_drop (l : List StT) (g : List PatT) (j : Nat) (h : j < g.length) : ndE l (g.drop j) = if callE l g[j] = 0 then ndE l (g.drop (j + 1)) else callE l g[j] := by
  rw [List.drop_eq_getElem_cons h, ndE]
theorem exE_drop (l : List StT) (g : List PatT) (j : Nat) (h : j < g.length) : exE l (g.drop j) = if ndE l (allT g[j]) = 0 then exE l (g.drop (j + 1)) else ndE l (allT g[j]) := by
  rw [List.drop_eq_getElem_cons h, exE]
theorem funcGo_lt (n : ByteArray) : ∀ (l : List StT) (i : Nat), funcGo n i l = -1 ∨ ∃ j : Nat, funcGo n i l = j ∧ i ≤ j ∧ j < i + l.length
  | [], i => .inl rfl
  | s :: r, i => by
    rw [funcGo]
    by_cases h : s.kind = 7 ∧ s.name = n
    · rw [if_pos h]; exact .inr ⟨i, rfl, Nat.le_refl _, by simp⟩
    · rw [if_neg h]
      rcases funcGo_lt n r (i + 1) with h1 | ⟨j, h1, h2, h3⟩
      · exact .inl h1
      · exact .inr ⟨j, h1, by omega, by simp; omega⟩
theorem funcF_lt (n : ByteArray) (l : List StT) : funcF l n = -1 ∨ ∃ j : Nat, funcF l n = j ∧ j < l.length := by
  rcases funcGo_lt n l 0 with h | ⟨j, h1, _, h3⟩
  · exact .inl h
  · exact .inr ⟨j, h1, by omega⟩
theorem gos_size {s : StT} (h : StSz s) (j : Nat) (hj : j < (gos s).length) : ((gos s)[j]).size < 1000000000 := by
  have : ∀ x ∈ gos s, x.size < 1000000000 := by
    intro x hx
    simp only [gos, List.mem_cons, List.not_mem_nil, or_false] at hx
    rcases hx with rfl | rfl | rfl
    · exact h.always
    · exact h.yes
    · exact h.noes
  exact this _ (List.getElem_mem hj)
theorem StB.hc {N : Nat} {a : StA} {s : StT} {w : World} (h : StB N a s w) : ∀ i (hi : i < 24), w.cell? ⟨N, 0 + i, none⟩ = some ((stCells a s)[i]'(by simpa [stCells] using hi)) := by
  intro i hi
  unfold StB at h
  rw [cell_of_row w N (0 + i) _ _ _ h, Nat.zero_add]
  show ((stCells a s).toArray)[i]? = _
  rw [List.getElem?_toArray, List.getElem?_eq_getElem (by simpa [stCells] using hi)]

set_option maxRecDepth 100000 in
set_option maxHeartbeats 8000000 in
theorem uses_any (l : List StT) (al : Option Addr) (cl : Nat) (s : StT) (v : Value) (S : Nat → Prop) (w : World) (hl : StsAt w S al l) (hs : StV w S v s) (hS : Safe S Nix w.heap.size) (hlen : l.length ≤ 1048576) :
    Calls Try.prog 15 #[.slice al l.length cl, v] w (IntQ (usesF l s) w) := by
  obtain ⟨a, rfl, hz, ho⟩ := hs
  have B1 := StB.new w a s
  have k1 : Kept Nix w _ := (Kept.refl Nix w).alloc (.cells (stCells a s).toArray 41)
  unfold stCells at k1
  unfold stVal
  generalize hw1 : World.alloc w _ = w1 at B1 k1
  have HB1 := Lib.hid B1; have HK1 := Lib.hid k1; have HW1 := Lib.hid hw1
  obtain ⟨c0, c1, _, _, _, _, _, _, _, _, _, _, _, _, _, _, _, c17, c18, _, _, c21, c22, c23⟩ := B1.cells
  have HZ := Lib.hid hz
  have HO := Lib.hid (ho.to k1 hS (fun _ h => h)); have HS := Lib.hid (hS.mono k1.size); have HL := Lib.hid (hl.to k1 hS (fun _ h => h))
  clear B1 k1 hw1 hz ho hS hl
  go_enter Try.func15, Try.ntmps15
  go_upto_region 1 with fail
  rw [HW1.out]
  go_upto_region 3 with fail
  obtain ⟨w2, hw2⟩ : ∃ w2, w2 = (w1.alloc (.cells #[.string s.always, .string s.yes, .string s.noes] 9)) := ⟨_, rfl⟩
  rw [← hw2]
  have hrow : w2.heap[w1.heap.size]? = some (.cells ((gos s).map Value.string).toArray 9 (0, 0)) := by rw [hw2]; exact heap_alloc_new w1 _
  have k2 : Kept Nix w1 w2 := by rw [hw2]; exact (Kept.refl Nix _).alloc _
  have HR : Hid (StrsAt w2 (· = w1.heap.size) (some ⟨w1.heap.size, 0, none⟩) (gos s)) := strs_row hrow rfl
  have hl2 : Hid (Safe (· = w1.heap.size) Nix w2.heap.size) := by rintro b rfl; exact ⟨by rw [hw2]; simp, fun h => h⟩
  have HB2 := Lib.hid (HB1.out.kept k2 (fun h => h)); have HK2 := Lib.hid (HK1.out.trans k2)
  have HO2 := Lib.hid (HO.out.to k2 HS.out (fun _ h => h)); have L2 := Lib.hid (HL.out.to k2 HS.out (fun _ h => h)); have S2 := Lib.hid (HS.out.mono k2.size)
  clear hrow hw2 k2 c0 c1 c17 c18 c21 c22 c23 HW1 HB1 HK1 HO HL HS
  go_loopw [23] (fun i wr => ∃ j : Nat, j ≤ 3 ∧ i = .int .i64 j ∧ Hid (goE l (gos s) = goE l ((gos s).drop j)) ∧ Kept Nix w2 wr) (fun i _ => 3 - (intOf i).toNat)
  case atStart => exact ⟨0, Nat.zero_le _, rfl, by unfold Hid; rw [List.drop_zero], Kept.refl _ _⟩
  case round =>
    obtain ⟨j, hj, rfl, hno, hkw⟩ := hrel
    have KW := Lib.hid hkw
    by_cases hlt : j < 3
    · have hcj : wr.cell? ⟨w1.heap.size, 0 + j, none⟩ = some (.string (gos s)[j]) := by
        obtain ⟨b, o, e, _, hc⟩ := (HR.out.to hkw hl2.out (fun _ h => h)) (by show 0 < 3; decide)
        simp only [Option.some.injEq, Addr.mk.injEq, and_true] at e
        obtain ⟨rfl, rfl⟩ := e
        exact hc j hlt
      rw [Nat.zero_add] at hcj
      have hd := goE_drop l (gos s) j hlt
      have hsz := gos_size HZ.out j hlt
      generalize (gos s)[j] = x at hcj hd hsz
      clear hkw
      by_cases h0 : x.size = 0
      · rw [if_neg (fun h => h.1 h0)] at hd
        have step := Lib.hid (hno.out.trans hd)
        have e1 : x.toList.isEmpty = true := isEmpty_size.2 h0
        clear hd h0
        go_wp2_with fail
        go_roundw
        case rel => exact ⟨j + 1, by omega, by go_num, step, KW.out⟩
        case measure => simp [intOf]; omega
      have e1 : x.toList.isEmpty = false := isEmpty_size'.2 (by omega)
      cases hk : keptF x with
      | true =>
        rw [if_neg (fun h => by have := h.2.1; rw [hk] at this; cases this)] at hd
        have step := Lib.hid (hno.out.trans hd)
        have HK := Lib.hid hk
        clear hd h0 hk
        go_wp2_with (go_at_call 35; (with_reducible refine (refKept_any _ _).mono ?_); rintro e w' ⟨rfl, rfl⟩; rw [HK.out])
        go_roundw
        case rel => exact ⟨j + 1, by omega, by go_num, step, KW.out⟩
        case measure => simp [intOf]; omega
      | false =>
        have HK := Lib.hid hk
        by_cases hq : labelF l x < 0
        · rw [if_pos ⟨h0, hk, hq⟩] at hd
          have fin : Hid (usesF l s = 6) := by unfold Hid usesF; rw [hno.out.trans hd]; exact firstE_nz (by decide)
          have e2 : decide (labelF l x < 0) = true := decide_eq_true hq
          clear hd h0 hk hq
          go_wp2_with (first
            | (go_at_call 35; (with_reducible refine (refKept_any _ _).mono ?_); rintro e w' ⟨rfl, rfl⟩; rw [HK.out])
            | (go_at_call 22; (with_reducible refine (label_any l _ cl x S _ (L2.out.to KW.out S2.out (fun _ h => h)) (S2.out.mono KW.out.size) hlen).mono ?_); rintro e w3 ⟨rfl, k_⟩; have K3 := Lib.hid (KW.out.trans k_); clear k_))
          go_ret
          exact ⟨by rw [fin.out]; try rfl, HK2.out.trans K3.out⟩
        · rw [if_neg (fun h => hq h.2.2)] at hd
          have step := Lib.hid (hno.out.trans hd)
          have e2 : decide (labelF l x < 0) = false := decide_eq_false hq
          clear hd h0 hk hq
          go_wp2_with (first
            | (go_at_call 35; (with_reducible refine (refKept_any _ _).mono ?_); rintro e w' ⟨rfl, rfl⟩; rw [HK.out])
            | (go_at_call 22; (with_reducible refine (label_any l _ cl x S _ (L2.out.to KW.out S2.out (fun _ h => h)) (S2.out.mono KW.out.size) hlen).mono ?_); rintro e w3 ⟨rfl, k_⟩; have K3 := Lib.hid (KW.out.trans k_); clear k_))
          go_roundw
          case rel => exact ⟨j + 1, by omega, by go_num, step, K3.out⟩
          case measure => simp [intOf]; omega
    · obtain rfl : j = 3 := by omega
      have hgo : Hid (goE l (gos s) = 0) := by unfold Hid; rw [hno.out]; rfl
      have EK1 : Hid (usesF l s = firstE [if s.kind = 7 ∧ labelF l s.entry < 0 then 6 else 0, exE l (exprsS s)]) := by unfold Hid usesF; exact firstE_z hgo.out
      obtain ⟨c0, c1, _, _, _, _, _, _, _, _, _, _, _, _, _, _, _, c17, c18, _⟩ := (HB2.out.kept hkw (fun h => h)).cells
      clear HR hl2 hkw hno hgo
      go_upto_region 8 with fail
      go_cut [50] (fun c wx => ∃ b1 : Bool, c = .bool b1 ∧ (b1 = true ↔ (s.kind = 7 ∧ labelF l s.entry < 0)) ∧ Kept Nix w2 wx)
      case first =>
        by_cases hk : s.kind = 7
        · have z1 : (s.kind == 7) = true := by simpa using hk
          by_cases hq : labelF l s.entry < 0
          · have fin : Hid (s.kind = 7 ∧ labelF l s.entry < 0) := ⟨hk, hq⟩
            have e2 : decide (labelF l s.entry < 0) = true := decide_eq_true hq
            clear hk hq
            go_wp2_with (go_at_call 22; (with_reducible refine (label_any l _ cl s.entry S _ (L2.out.to KW.out S2.out (fun _ h => h)) (S2.out.mono KW.out.size) hlen).mono ?_); rintro e w3 ⟨rfl, k_⟩; have K3 := Lib.hid (KW.out.trans k_); clear k_)
            go_meet
            exact ⟨true, rfl, ⟨fun _ => fin.out, fun _ => rfl⟩, K3.out⟩
          · have fin : Hid (¬ (s.kind = 7 ∧ labelF l s.entry < 0)) := fun h => hq h.2
            have e2 : decide (labelF l s.entry < 0) = false := decide_eq_false hq
            clear hk hq
            go_wp2_with (go_at_call 22; (with_reducible refine (label_any l _ cl s.entry S _ (L2.out.to KW.out S2.out (fun _ h => h)) (S2.out.mono KW.out.size) hlen).mono ?_); rintro e w3 ⟨rfl, k_⟩; have K3 := Lib.hid (KW.out.trans k_); clear k_)
            go_meet
            exact ⟨false, rfl, ⟨fun h => (by cases h), fun h => absurd h fin.out⟩, K3.out⟩
        · have z1 : (s.kind == 7) = false := by simpa using hk
          have fin : Hid (¬ (s.kind = 7 ∧ labelF l s.entry < 0)) := fun h => hk h.1
          clear hk
          go_wp2_with fail
          go_meet
          exact ⟨false, rfl, ⟨fun h => (by cases h), fun h => absurd h fin.out⟩, KW.out⟩
      case rest =>
        obtain ⟨b1, rfl, hb1, hk3⟩ := hcut
        have K3 := Lib.hid hk3
        clear c0 c1 c17 c18
        cases b1 with
        | true =>
          have fin : Hid (usesF l s = 6) := by unfold Hid; rw [EK1.out, if_pos (hb1.1 rfl)]; exact firstE_nz (by decide)
          clear hb1 hk3
          go_wp2_with fail
          go_ret
          exact ⟨by rw [fin.out]; try rfl, HK2.out.trans K3.out⟩
        | false =>
          have EK2 : Hid (usesF l s = exE l (exprsS s)) := by unfold Hid; rw [EK1.out, if_neg (fun h => by have := hb1.2 h; cases this), firstE_z rfl, firstE_one]
          have hB3 := HB2.out.kept hk3 (fun h => h)
          have HHC := Lib.hid hB3.hc
          obtain ⟨w3, hw3, K4⟩ : ∃ w3, w3 = _ ∧ Hid (Kept Nix w2 w3) := ⟨_, rfl, hk3⟩
          rw [← hw3] at HHC ⊢
          clear hb1 hk3 hB3 EK1 hw3 K3 KW
          go_wp2_with (refine wpList_load_st rfl _ rfl w.heap.size 0 rfl a s HHC.out ?_)
          have S3 := Lib.hid (S2.out.mono K4.out.size)
          have L3 : Hid (StsAt w3 S al l) := L2.out.to K4.out S2.out (fun _ h => h)
          refine (exprs_any s (stVal a s) S w3 ⟨a, rfl, HZ.out, HO2.out.to K4.out S2.out (fun _ h => h)⟩ S3.out).mono ?_
          rintro e w4 ⟨a4, c4, rfl, P4, k_⟩
          have KE := Lib.hid k_
          have HP4 := Lib.hid P4
          have h34 := k_.size
          have hx2 : (exprsS s).length ≤ 2 := by unfold exprsS; split <;> (try split) <;> simp
          have hxs : Hid (∀ x ∈ exprsS s, sizeT x ≤ 1048576) := by
            unfold Hid exprsS
            intro x hx
            split at hx
            · simp only [List.mem_singleton] at hx; subst hx; exact HZ.out.value.t
            · split at hx
              · simp only [List.mem_cons, List.not_mem_nil, or_false] at hx; rcases hx with rfl | rfl; exact HZ.out.target.t; exact HZ.out.value.t
              · cases hx
          have S4 : Hid (Safe (fun b => S b ∨ (w3.heap.size ≤ b ∧ b < w4.heap.size)) Nix w4.heap.size) := by
            intro b hb
            rcases hb with hb | hb
            · exact ⟨Nat.lt_of_lt_of_le (S3.out b hb).1 h34, fun h => h⟩
            · exact ⟨hb.2, fun h => h⟩
          generalize hX : exprsS s = X at *
          clear P4 k_ hX HHC
          go_wp2_with fail
          go_loopw [54] (fun i wr => ∃ j : Nat, j ≤ X.length ∧ i = .int .i64 j ∧ Hid (exE l X = exE l (X.drop j)) ∧ Kept Nix w4 wr) (fun i _ => X.length - (intOf i).toNat)
          case atStart => exact ⟨0, Nat.zero_le _, rfl, by unfold Hid; rw [List.drop_zero], Kept.refl _ _⟩
          case round =>
            obtain ⟨j, hj, rfl, hno, hkw⟩ := hrel
            have KR := Lib.hid hkw
            by_cases hlt : j < X.length
            · have hks := HP4.out.kept hkw S4.out
              obtain ⟨b1, o1, rfl⟩ := PatsAt_head hks (by omega)
              obtain ⟨_, hz1, p0, p1, p2, p3, ka1, cap1, p4, hk1⟩ := (PatsAt_get X b1 o1 j hlt hks).open
              have hd := exE_drop l X j hlt
              have hxz := hxs.out _ (List.getElem_mem hlt)
              have kA : Kept Nix wr (wr.alloc (.cells #[.int .i64 X[j].kind, .string X[j].text, .int .i64 X[j].n, .string X[j].name, .slice ka1 X[j].kids.length cap1] 35)) := (Kept.refl _ _).alloc _
              have hSr := S4.out.mono hkw.size
              have HC := Lib.hid (ExAll_any 100000000 X[j] _ _ _ (by omega) (by omega) (⟨ka1, cap1, rfl, hz1, hk1.kept kA hSr⟩ : PatV (wr.alloc (.cells #[.int .i64 X[j].kind, .string X[j].text, .int .i64 X[j].n, .string X[j].name, .slice ka1 X[j].kids.length cap1] 35)) _ _ X[j]) (hSr.mono kA.size))
              have KA := Lib.hid (hkw.trans kA)
              have SA := Lib.hid (hSr.mono kA.size)
              clear hks hk1 kA hSr hkw hz1
              go_wp2_with fail
              refine HC.out.mono ?_
              rintro e w5 ⟨v5, rfl, ⟨cs, hW, hR⟩, k5⟩
              have hlen5 := allT_length X[j]
              obtain ⟨g, og, cp, rfl, _, hg, hat⟩ := hW.row5 hR (by rw [hlen5]; exact sizeT_pos _)
              have K5 := Lib.hid (KA.out.trans k5)
              have AT := Lib.hid hat
              have S5 : Hid (Safe (fun b => (S b ∨ (w3.heap.size ≤ b ∧ b < w4.heap.size)) ∨ b = g) Nix w5.heap.size) := by
                intro b hb
                rcases hb with hb | rfl
                · exact ⟨Nat.lt_of_lt_of_le (SA.out b hb).1 k5.size, fun h => h⟩
                · exact ⟨hg, fun h => h⟩
              have hyl : (allT X[j]).length ≤ 1048576 := by rw [hlen5]; exact hxz
              generalize allT X[j] = Y at *
              clear hW hR hat hg k5 HC SA KA p0 p1 p2 p3 p4 hlen5
              go_wp2_with fail
              go_loopw [61] (fun i wq => ∃ k : Nat, k ≤ Y.length ∧ i = .int .i64 k ∧ Hid (ndE l Y = ndE l (Y.drop k)) ∧ Kept Nix w5 wq) (fun i _ => Y.length - (intOf i).toNat)
              case atStart => exact ⟨0, Nat.zero_le _, rfl, by unfold Hid; rw [List.drop_zero], Kept.refl _ _⟩
              case round =>
                obtain ⟨k, hk, rfl, hnk, hkq⟩ := hrel
                have K6 := Lib.hid (K5.out.trans hkq)
                by_cases hlk : k < Y.length
                · obtain ⟨_, hz2, p0, p1, p2, p3, ka2, cap2, p4, hk2⟩ := ((AT.out k hlk).kept hkq S5.out).open
                  have hdk := ndE_drop l Y k hlk
                  have KY : Hid (Kept Nix w5 (wr.alloc (.cells #[.int .i64 Y[k].kind, .string Y[k].text, .int .i64 Y[k].n, .string Y[k].name, .slice ka2 Y[k].kids.length cap2] 35))) := hkq.alloc _
                  clear hk2 hkq
                  by_cases hy6 : Y[k].kind = 6
                  rotate_left
                  · have z1 : (Y[k].kind != 6) = true := by simpa using hy6
                    rw [if_pos (by unfold callE; rw [if_pos hy6])] at hdk
                    have step := Lib.hid (hnk.out.trans hdk)
                    clear hdk hy6
                    go_wp2_with fail
                    go_roundw
                    case rel => exact ⟨k + 1, by omega, by go_num, step, KY.out⟩
                    case measure => simp [intOf]; omega
                  have z1 : (Y[k].kind != 6) = false := by simpa using hy6
                  have hce : Hid (callE l Y[k] = if 0 ≤ builtinF Y[k].name ∧ builtinF Y[k].name ≠ Y[k].kids.length then 5 else if builtinF Y[k].name < 0 ∧ funcF l Y[k].name < 0 then 7 else if builtinF Y[k].name < 0 ∧ paramsAt l (funcF l Y[k].name) < Y[k].kids.length then 5 else 0) := by
                    unfold Hid callE; rw [if_neg (by simp [hy6])]
                  have hyk := hz2.2.2
                  generalize Y[k] = y at *
                  clear hy6
                  go_upto_region 17 with fail
                  obtain ⟨w6, hw6⟩ : ∃ w6, w6 = (wr.alloc (.cells #[.int .i64 y.kind, .string y.text, .int .i64 y.n, .string y.name, .slice ka2 y.kids.length cap2] 35)) := ⟨_, rfl⟩
                  rw [← hw6] at KY ⊢
                  have BX : Hid (Box5 wr.heap.size (.int .i64 y.kind) (.string y.text) (.int .i64 y.n) (.string y.name) (.slice ka2 y.kids.length cap2) w6) := by rw [hw6]; exact Box5.new ..
                  have K7 := Lib.hid (K5.out.trans KY.out)
                  have L6 : Hid (StsAt w6.drew S al l) := (L3.out.to (KE.out.trans K7.out) S3.out (fun _ h => h)).to (Kept.refl Nix w6).drew (S3.out.mono (KE.out.trans K7.out).size) (fun _ h => h)
                  have S6 : Hid (Safe S Nix w6.drew.heap.size) := S3.out.mono (KE.out.trans K7.out).size
                  clear hw6 p0 p1 p2 p3 p4
                  have q3 := BX.out.h3
                  go_cut [12, 13] (fun c d wx => c = .int .i64 (builtinF y.name) ∧ d = .int .i64 (funcF l y.name) ∧ Kept Nix w6 wx)
                  case first =>
                    go_region_with (first
                      | (go_at_call 8; (with_reducible refine (args_any _ w6.drew).mono ?_); rintro e wa ⟨rfl, ka_⟩; have KB := Lib.hid ((Kept.refl Nix w6).drew.trans ka_); have q3a := (BX.out.kept KB.out (fun h => h)).h3; have L7 := Lib.hid (L6.out.to ka_ S6.out (fun _ h => h)); have S7 := Lib.hid (S6.out.mono ka_.size); clear ka_)
                      | (go_at_call 23; (with_reducible refine (func_any l _ cl y.name S w6.drew L6.out S6.out hlen).mono ?_); rintro e wa ⟨rfl, ka_⟩; have KB := Lib.hid ((Kept.refl Nix w6).drew.trans ka_); have q3a := (BX.out.kept KB.out (fun h => h)).h3; clear ka_)
                      | (go_at_call 8; (with_reducible refine (args_any _ wa).mono ?_); rintro e wb ⟨rfl, kb_⟩; have KC := Lib.hid (KB.out.trans kb_); clear kb_)
                      | (go_at_call 23; (with_reducible refine (func_any l _ cl y.name S wa L7.out S7.out hlen).mono ?_); rintro e wb ⟨rfl, kb_⟩; have KC := Lib.hid (KB.out.trans kb_); clear kb_))
                    all_goals (go_wp2_with fail; go_meet; exact ⟨rfl, rfl, KC.out⟩)
                  case rest =>
                    obtain ⟨rfl, rfl, hk8⟩ := hcut
                    have K8 := Lib.hid (KY.out.trans hk8)
                    have KK8 := Lib.hid ((HK2.out.trans ((K4.out.trans KE.out).trans K7.out)).trans hk8)
                    have q4 := (BX.out.kept hk8 (fun h => h)).h4
                    have LX := Lib.hid (L3.out.to ((KE.out.trans K7.out).trans hk8) S3.out (fun _ h => h))
                    have herr : Hid (∀ e, callE l y = e → e ≠ 0 → usesF l s = e) := fun e h1 h2 => by
                      rw [h1, if_neg h2] at hdk
                      have h3 := hnk.out.trans hdk
                      rw [h3, if_neg h2] at hd
                      exact EK2.out.trans (hno.out.trans hd)
                    have hstep : Hid (callE l y = 0 → ndE l Y = ndE l (Y.drop (k + 1))) := fun h1 => by
                      rw [h1, if_pos rfl] at hdk
                      exact hnk.out.trans hdk
                    have HD := Lib.hid hd
                    have hrg : -1 ≤ builtinF y.name ∧ builtinF y.name ≤ 3 := by unfold builtinF; split <;> (try split) <;> (try split) <;> omega
                    have hfl := funcF_lt y.name l
                    clear hk8 q3 hdk hd L6 S6
                    generalize hbn : builtinF y.name = bn at *
                    generalize hfn : funcF l y.name = fn at *
                    clear hbn hfn
                    by_cases hn : 0 ≤ bn
                    · have e1 : decide (0 ≤ bn) = true := decide_eq_true hn
                      have e3 : decide (bn < 0) = false := decide_eq_false (by omega)
                      by_cases hne : bn = (y.kids.length : Int)
                      · have e2 : (bn != (y.kids.length : Int)) = false := by simpa using hne
                        have step := Lib.hid (hstep.out (by rw [hce.out, if_neg (fun h => h.2 hne), if_neg (by omega), if_neg (by omega)]))
                        clear hne hn hfl
                        go_wp2_with fail
                        go_quiet (fail)
                        go_wp2_with fail
                        go_roundw
                        case rel => exact ⟨k + 1, by omega, by go_num, step, K8.out.drewN _⟩
                        case measure => simp [intOf]; omega
                      · have e2 : (bn != (y.kids.length : Int)) = true := by simpa using hne
                        have fin := Lib.hid (herr.out 5 (by rw [hce.out, if_pos ⟨hn, hne⟩]) (by decide))
                        clear hne hn hfl
                        go_wp2_with fail
                        go_ret
                        exact ⟨by rw [fin.out]; try rfl, KK8.out⟩
                    have e1 : decide (0 ≤ bn) = false := decide_eq_false hn
                    have e3 : decide (bn < 0) = true := decide_eq_true (by omega)
                    rcases hfl with hf | ⟨dn, hf, hdn⟩
                    · subst hf
                      have fin := Lib.hid (herr.out 7 (by rw [hce.out, if_neg (fun h => hn h.1), if_pos ⟨by omega, by omega⟩]) (by decide))
                      clear hn
                      go_wp2_with fail
                      go_ret
                      exact ⟨by rw [fin.out]; try rfl, KK8.out⟩
                    · subst hf
                      obtain ⟨bl, ol, rfl, hcl⟩ := LX.out (by omega)
                      obtain ⟨ad, _, hzd, hcd, _⟩ := hcl dn hdn
                      have x19 := hcd 19 (by decide)
                      have hpl : paramsAt l ((dn : Nat) : Int) = l[dn].params.length := by unfold paramsAt; rw [Int.toNat_natCast, List.getElem?_eq_getElem hdn]
                      have hpz := hzd.params.1
                      clear hcl hcd hzd
                      have x19' : _ = some (Value.slice ad.ma l[dn].params.length ad.mc) := x19
                      clear x19
                      rw [hpl] at hce
                      generalize l[dn].params.length = pl at *
                      by_cases hq : pl < y.kids.length
                      · have e4 : decide ((pl : Int) < (y.kids.length : Int)) = true := decide_eq_true (by omega)
                        have e5 : decide (pl < y.kids.length) = true := decide_eq_true hq
                        have fin := Lib.hid (herr.out 5 (by rw [hce.out, if_neg (fun h => hn h.1), if_neg (by omega), if_pos ⟨by omega, hq⟩]) (by decide))
                        clear hn hq hpl
                        go_wp2_with fail
                        go_quiet (fail)
                        go_wp2_with fail
                        go_ret
                        exact ⟨by rw [fin.out]; try rfl, KK8.out.drewN _⟩
                      · have e4 : decide ((pl : Int) < (y.kids.length : Int)) = false := decide_eq_false (by omega)
                        have e5 : decide (pl < y.kids.length) = false := decide_eq_false hq
                        have step := Lib.hid (hstep.out (by rw [hce.out, if_neg (fun h => hn h.1), if_neg (by omega), if_neg (by omega)]))
                        clear hn hq hpl
                        go_wp2_with fail
                        go_quiet (fail)
                        go_wp2_with fail
                        go_roundw
                        case rel => exact ⟨k + 1, by omega, by go_num, step, K8.out.drewN _⟩
                        case measure => simp [intOf]; omega
                · obtain rfl : k = Y.length := by omega
                  have hnd : ndE l Y = 0 := by rw [hnk.out, List.drop_length, ndE]
                  rw [if_pos hnd] at hd
                  have step := Lib.hid (hno.out.trans hd)
                  clear hd hnd hkq
                  go_wp2_with fail
                  go_roundw
                  case rel => exact ⟨j + 1, by omega, by go_num, step, K6.out⟩
                  case measure => simp [intOf]; omega
            · obtain rfl : j = X.length := by omega
              have fin : Hid (usesF l s = 0) := by unfold Hid; rw [EK2.out, hno.out, List.drop_length, exE]
              go_wp2_with fail
              go_ret
              exact ⟨by rw [fin.out]; try rfl, HK2.out.trans ((K4.out.trans KE.out).trans KR.out)⟩
end Go.Proofs.Ytkhhinmhgjicgaa
