/- The program's reader of lines: statement. What the tokens of a line come to. The program's reader of lines: what Line answers; its three answers in memory; the closure that catches. -/
import Derived.Test.YtlnhcgihpclpaaaGreatDoorLm21
import Derived.Test.YtlnhcgihpclpaaaGreatDoorPs24
import Derived.Test.YtlnhcgihpclpaaaGreatDoorLm20
import Derived.Recover
import Derived.RegionTactic
import Derived.BigRegion
namespace Go.Proofs.YtlnhcgihpclpaaaGreatDoor
set_option linter.all false
open Go.RowKit

theorem StB.hc0 {M : Nat} {a : StA} {s : StT} {w : World} (h : StB M a s w) (i : Nat) (hi : i < 24) : w.cell? ⟨M, 0 + i, none⟩ = some ((stCells a s)[i]'(by simpa [stCells] using hi)) := by
  unfold StB at h
  rw [Nat.zero_add, cell_of_row w M i _ _ _ h]
  have e : ∀ (j : Nat) (hj : j < (stCells a s).length), (stCells a s).toArray[j]? = some (stCells a s)[j] := fun j hj => by simp [hj]
  exact e i (by simpa [stCells] using hi)
theorem loadVarSt {w : World} {M : Nat} {a : StA} {s : StT} (h : StB M a s w) : (loadVar 49 ⟨M, 0, none⟩).run Tryz.prog w = .ok (stVal a s) w := by
  have h1 := loadSt h.hc0
  unfold Instr.loadAt at h1
  simpa only [Instr.sureAddr, Sem.run_bind, Sem.run_pure, Result.andThen_ok] using h1
theorem ret_st (n : Nat) {f : Func} (hres : f.results = #[.cell n 49]) {tmps : Array Value} {M : Nat} (ht : tmps.getD n undef = .pointer (some ⟨M, 0, none⟩)) {a : StA} {s : StT} {w2 : World} {Q : Ending → World → Prop} (h : StB M a s w2)
    (hq : Q (.returned (stVal a s)) w2) : bodyPost Tryz.prog f Q .ret ⟨tmps, []⟩ w2 := by
  have ht' : tmps[n]?.getD undef = .pointer (some ⟨M, 0, none⟩) := by rw [← ht, Array.getD_eq_getD_getElem?]
  refine bodyPost_ret (v := stVal a s) ?_ rfl hq
  have hl := loadVarSt h
  simp [results, hres, ht', asAddr, hl, Sem.run_bind, Sem.run_pure, Result.andThen_ok]
def nilA : StA := ⟨none, 0, none, 0, none, 0, none, 0, none, 0⟩
def stZ : StT := { st0 with kind := 0 }
theorem nil_ok (w : World) (S : Nat → Prop) {s : StT} (h1 : s.target = zeroT) (h2 : s.value = zeroT) (h3 : s.pat = zeroT) (h4 : s.params = []) (h5 : s.locals = []) : StOk w S nilA s := by
  have hp : PatsAt w S none [] := by unfold PatsAt; trivial
  have hs : StrsAt w S none [] := fun h => by cases h
  exact ⟨by rw [h1]; exact hp, by rw [h2]; exact hp, by rw [h3]; exact hp, by rw [h4]; exact hs, by rw [h5]; exact hs⟩
/-- While a statement is read: its own block M, the answer's R. -/
structure StI (N T en R M : Nat) (w : World) (s : StT) (l : List LTok) (wx : World) : Prop where
  sb : SbI N T en M s l wx
  z : StB R nilA stZ wx
  k : Kept (· = N) w wx
  lt : N < w.heap.size ∧ T < w.heap.size ∧ w.heap.size ≤ R ∧ R < M
theorem StI.step {N T en R M : Nat} {w wx wy : World} {s s2 : StT} {l l2 : List LTok} (h : StI N T en R M w s l wx) (hk : Kept (fun b => b = N ∨ b = M) wx wy) (hs : SbI N T en M s2 l2 wy) : StI N T en R M w s2 l2 wy :=
  ⟨hs, h.z.kept hk (by have := h.lt; omega), h.k.step hk (fun y hy => by have := h.lt; rcases hy with rfl | rfl; exact .inl rfl; exact .inr (by omega)), h.lt⟩
theorem StI.rdr_to {N T en R M : Nat} {w wx wy : World} {s : StT} {l l2 : List LTok} (h : StI N T en R M w s l wx) (hk : Kept (· = N) wx wy) (hr : PsR N T en l2 0 wy) (hl : l2.length ≤ l.length) : StI N T en R M w s l2 wy :=
  h.step (keptN hk) (h.sb.rdr_to hk hr hl)
def StQ (N : Nat) (res : Except Er StT) (w : World) (e : Ending) (w' : World) : Prop :=
  Kept (· = N) w w' ∧ match res with
    | .ok s => ∃ a S, e = .returned (stVal a s) ∧ StSz s ∧ StOk w' S a s ∧ ∀ b, S b → w.heap.size ≤ b ∧ b < w'.heap.size
    | .error er => ThrewL er e
theorem StQ.thrown {N : Nat} {r : Except Er StT} {w w2 w3 : World} {er : Er} (K : Kept (· = N) w w2) (k : Kept (· = N) w2 w3) (hr : r = .error er) : StQ N r w (.panicked [{ v := lineOops er, recovered := false }]) w3 := by
  subst hr; exact ⟨K.trans k, rfl⟩
def stmt2 (en : Nat) (s : StT) (r : List LTok) : Except Er StT := match (if r ≠ [] ∧ signT (bs [58]) r = false then bodyT en s r else .ok (s, r)) with
  | .error er => .error er
  | .ok (s2, r2) => tailT en s2 r2
def tail3 (en : Nat) (s2 : StT) (r : List LTok) : Except Er StT := if r ≠ [] then .error (2, atT en r) else if 200 < depT s2.target ∨ 200 < depT s2.value then .error (4, 0) else .ok s2
theorem givenT_yes {en a : Nat} {s s2 : StT} {x : PatT} {k : Int} {l r : List LTok} (h : givenT en a s x k l = .ok (s2, r)) : s2.yes = s.yes ∧ s2.noes = s.noes := by
  unfold givenT at h
  split at h
  · split at h
    · cases h
    · split at h
      · cases h
      · simp only [Except.ok.injEq, Prod.mk.injEq] at h; obtain ⟨rfl, _⟩ := h; exact ⟨rfl, rfl⟩
  · simp only [Except.ok.injEq, Prod.mk.injEq] at h; obtain ⟨rfl, _⟩ := h; exact ⟨rfl, rfl⟩
theorem bodyT_yes {en : Nat} {s s2 : StT} {l r : List LTok} (h : bodyT en s l = .ok (s2, r)) : s2.yes = s.yes ∧ s2.noes = s.noes := by
  unfold bodyT at h
  split at h
  · unfold defineT at h
    repeat' split at h
    all_goals first | cases h; done | (simp only [Except.ok.injEq, Prod.mk.injEq] at h; obtain ⟨rfl, _⟩ := h; exact ⟨rfl, rfl⟩)
  · split at h
    · unfold ruleT at h
      repeat' split at h
      all_goals first | cases h; done | (simp only [Except.ok.injEq, Prod.mk.injEq] at h; obtain ⟨rfl, _⟩ := h; exact ⟨rfl, rfl⟩)
    · unfold evalT at h
      split at h
      · cases h
      · split at h
        · split at h
          · cases h
          · have := givenT_yes h; exact this
        · have := givenT_yes h; exact this
theorem SbI.patT {N T en M : Nat} {s : StT} {l : List LTok} {w : World} (h : SbI N T en M s l w) : (∃ S, PatAt w S M 2 s.target) ∧ ∃ S, PatAt w S M 7 s.value := by
  obtain ⟨a, S, hB, hO, hS⟩ := h.st
  have hlt := hB.lt
  obtain ⟨c0, c1, c2, c3, c4, c5, c6, c7, c8, c9, c10, c11, c12, c13, c14, c15, c16, c17, c18, c19, c20, c21, c22, c23⟩ := hB.cells
  have hk1 := hO.target.to (S' := fun b => S b ∨ b = M) (Kept.refl Nix w) (fun b hb => ⟨(hS b hb).2, fun h => h⟩) (fun _ h => .inl h)
  have hk2 := hO.value.to (S' := fun b => S b ∨ b = M) (Kept.refl Nix w) (fun b hb => ⟨(hS b hb).2, fun h => h⟩) (fun _ h => .inl h)
  have z1 := h.sz.target.z; have z2 := h.sz.value.z
  refine ⟨⟨fun b => S b ∨ b = M, ?_⟩, ⟨fun b => S b ∨ b = M, ?_⟩⟩
  · generalize s.target = p at *
    obtain ⟨k, t, n, nm, kids⟩ := p
    unfold PatAt
    exact ⟨.inr rfl, z1, c2, c3, c4, c5, a.ta, a.tc, c6, hk1⟩
  · generalize s.value = p at *
    obtain ⟨k, t, n, nm, kids⟩ := p
    unfold PatAt
    exact ⟨.inr rfl, z2, c7, c8, c9, c10, a.va, a.vc, c11, hk2⟩
set_option maxRecDepth 100000 in
set_option maxHeartbeats 16000000 in
theorem lstmt_any {N T en : Nat} (lab : Bool) {l : List LTok} {w : World} (h : PsR N T en l 0 w) (hl : l.length ≤ 100000) : Calls Tryz.prog 23 #[.pointer (some ⟨N, 0, none⟩), .bool lab] w (StQ N (stmtT en lab l) w) := by
  obtain ⟨hN, hT, hne, h7⟩ := h.ltN
  obtain ⟨w0, hw0⟩ : ∃ w0, w0 = w.alloc (.cells #[.string ⟨#[]⟩, .int .i64 0, .int .i64 0, .string ⟨#[]⟩, .int .i64 0, .string ⟨#[]⟩, .slice none 0 0, .int .i64 0, .string ⟨#[]⟩, .int .i64 0, .string ⟨#[]⟩, .slice none 0 0, .int .i64 0, .string ⟨#[]⟩, .int .i64 0, .string ⟨#[]⟩, .slice none 0 0, .string ⟨#[]⟩, .string ⟨#[]⟩, .slice none 0 0, .slice none 0 0, .string ⟨#[]⟩, .string ⟨#[]⟩, .string ⟨#[]⟩] 49) := ⟨_, rfl⟩
  have k0 : Kept Nix w w0 := by rw [hw0]; exact (Kept.refl _ _).alloc _
  obtain ⟨R, hR⟩ : ∃ R, R = w.heap.size := ⟨_, rfl⟩
  have Z0 : Hid (StB R nilA stZ w0) := by rw [hw0, hR]; exact StB.new w nilA stZ
  have R0 := Lib.hid (h.kept k0 (fun h => h) (fun h => h))
  have K0 := Lib.hid k0; have HW0 := Lib.hid hw0; have HR := Lib.hid hR; have HL := Lib.hid hl
  have hz0 : Hid (w0.heap.size = w.heap.size + 1) := by unfold Hid; rw [hw0]; simp
  clear k0 hw0 hR h hl
  go_enter Tryz.func23, Tryz.ntmps23
  go_upto_region 1 with fail
  rw [← HW0.out, ← HR.out]
  go_upto_region 2 with (refine wpList_store_st rfl _ _ rfl w0.heap.size rfl nilA st0 rfl _ (heap_alloc_new w0 _) rfl ?_; intro w1 hB1 hk1; have kA := (Kept.refl Nix w0).alloc (.cells #[.string ⟨#[]⟩, .int .i64 0, .int .i64 0, .string ⟨#[]⟩, .int .i64 0, .string ⟨#[]⟩, .slice none 0 0, .int .i64 0, .string ⟨#[]⟩, .int .i64 0, .string ⟨#[]⟩, .slice none 0 0, .int .i64 0, .string ⟨#[]⟩, .int .i64 0, .string ⟨#[]⟩, .slice none 0 0, .string ⟨#[]⟩, .string ⟨#[]⟩, .slice none 0 0, .slice none 0 0, .string ⟨#[]⟩, .string ⟨#[]⟩, .string ⟨#[]⟩] 49); have hlt1 := hB1.lt; have I1 : Hid (StI N T en R w0.heap.size w (st1 E0) l w1) := (by have hz := hz0.out; have hr := HR.out; have hs1 := hk1.size; refine ⟨⟨(R0.out.kept kA (fun h => h) (fun h => h)).kept hk1 (by omega) (by omega) (by omega), ⟨nilA, Nix, hB1, nil_ok _ _ rfl rfl rfl rfl rfl, fun b hb => hb.elim⟩, st0_sz (lb := E0) (by decide), by omega, HL.out⟩, (Z0.out.kept kA (fun h => h)).kept hk1 (by omega), ((K0.out.trans kA).more (fun _ h => h.elim)).step hk1 (fun y hy => .inr (by omega)), by omega⟩); clear hB1 hk1 kA hlt1)
  obtain ⟨M, hM⟩ : ∃ M, M = w0.heap.size := ⟨_, rfl⟩
  rw [← hM] at I1
  rw [← hM]
  clear hM
  try dsimp only [Act.put]
  go_upto_if 7 with fail
  go_cut [] (fun wx => ∃ (lb : ByteArray) (r : List LTok), Hid (StI N T en R M w (st1 lb) r wx) ∧ Hid (stmtT en lab l = stmt2 en (st1 lb) r))
  case first =>
    cases lab with
    | true =>
      go_wp2_with (go_at_call 43; (refine (lname_any I1.out.sb.rdr).mono ?_); intro e w2 h_; rcases hu : nameT en l with e0 | ⟨lb, r⟩; (obtain ⟨k_, rfl⟩ := h_.bad hu; have f_ : StQ N (stmtT en true l) w (.panicked [{ v := lineOops e0, recovered := false }]) _ := StQ.thrown I1.out.k k_ (by unfold stmtT; simp only [if_true, hu]); exact ⟨rfl, f_⟩); (obtain ⟨k_, rfl, r_⟩ := h_.ok hu; have HU := Lib.hid hu; have I2 := Lib.hid (I1.out.rdr_to k_ r_ (by have := nameT_len hu; omega)); obtain ⟨v0, c0, f0⟩ := I2.out.sb.slot 0 (by decide); clear k_ r_ h_ hu))
      go_meet
      exact ⟨lb, r, I2.out.step (keptNM setM) (I2.out.sb.setLabel lb (by have := name_size HU.out; omega)), by unfold Hid stmtT; simp only [if_true, HU.out]; rfl⟩
    | false =>
      go_wp2_with fail
      go_meet
      exact ⟨E0, l, I1, by unfold Hid stmtT; rfl⟩
  case rest =>
    obtain ⟨lb, r, I2, H2⟩ := hcut
    obtain ⟨w2, rfl⟩ : ∃ x : World, x = wc := ⟨_, rfl⟩
    clear I1 Z0 R0
    go_upto_region 4 with fail
    obtain ⟨nq, aq, cq, hq⟩ := I2.out.sb.rdr
    have HS := Lib.hid (lsign_any ⟨#[58]⟩ hq)
    go_cut [21] (fun c wx => c = .bool (decide (r ≠ [] ∧ signT (bs [58]) r = false)) ∧ w2 = wx)
    case first =>
      obtain ⟨c0, c1, cd, cf⟩ := hq.c0
      have hn := hq.num
      by_cases h0 : r = []
      · have z : decide ((0 : Int) < (nq : Int)) = false := by rw [hn, h0]; rfl
        have z' : decide (0 < nq) = false := by rw [hn, h0]; rfl
        have fin : Hid (decide (r ≠ [] ∧ signT (bs [58]) r = false) = false) := decide_eq_false (fun h => h.1 h0)
        clear hn hq cf h0
        go_wp2_with fail
        go_meet
        exact ⟨by rw [fin.out], rfl⟩
      · have hp : 0 < nq := by rw [hn]; exact List.length_pos_iff.2 h0
        have z : decide ((0 : Int) < (nq : Int)) = true := decide_eq_true (by omega)
        have z' : decide (0 < nq) = true := decide_eq_true hp
        have fin : Hid (decide (r ≠ [] ∧ signT (bs [58]) r = false) = !(signT ⟨#[58]⟩ r)) := by
          unfold Hid
          cases hs : signT ⟨#[58]⟩ r with
          | true => exact decide_eq_false (fun h => by rw [show signT (bs [58]) r = true from hs] at h; cases h.2)
          | false => exact decide_eq_true ⟨h0, hs⟩
        clear hn hq cf h0
        go_wp2_with (go_at_call 44; (refine HS.out.mono ?_); rintro e w' ⟨rfl, hw_⟩; obtain rfl := hw_.symm)
        go_meet
        exact ⟨by rw [fin.out], rfl⟩
    case rest =>
      obtain ⟨rfl, rfl⟩ := hcut
      clear hq
      go_upto_if 21 with fail
      go_cut [] (fun wx => ∃ (s2 : StT) (r2 : List LTok), Hid (StI N T en R M w s2 r2 wx) ∧ Hid (s2.yes = E0 ∧ s2.noes = E0) ∧ Hid (stmtT en lab l = tailT en s2 r2))
      case first =>
        by_cases hb : r ≠ [] ∧ signT (bs [58]) r = false
        · have HB := Lib.hid hb
          rw [decide_eq_true hb]
          clear hb
          go_wp2_with (go_at_call 45; (refine (lbody_any I2.out.sb).mono ?_); intro e w3 h_; rcases hu : bodyT en (st1 lb) r with e0 | ⟨s2, r2⟩; (obtain ⟨k_, rfl⟩ := h_.bad hu; have f_ : StQ N (stmtT en lab l) w (.panicked [{ v := lineOops e0, recovered := false }]) _ := StQ.thrown (I2.out.k.step k_ (fun y hy => by have := I2.out.lt; rcases hy with rfl | rfl; exact .inl rfl; exact .inr (by omega))) (Kept.refl _ _) (by rw [H2.out]; unfold stmt2; rw [if_pos HB.out, hu]); exact ⟨rfl, f_⟩); (obtain ⟨k_, rfl, s_⟩ := h_.ok hu; have HU := Lib.hid hu; have I3 := Lib.hid (I2.out.step k_ s_); clear k_ s_ h_ hu))
          go_meet
          exact ⟨s2, r2, I3, by have := bodyT_yes HU.out; exact this, by unfold Hid; rw [H2.out]; unfold stmt2; rw [if_pos HB.out, HU.out]⟩
        · have HB := Lib.hid hb
          rw [decide_eq_false hb]
          clear hb
          go_wp2_with fail
          go_meet
          exact ⟨st1 lb, r, I2, ⟨rfl, rfl⟩, by unfold Hid; rw [H2.out]; unfold stmt2; rw [if_neg HB.out]⟩
      case rest =>
        obtain ⟨s2, r2, I3, HY, H3⟩ := hcut
        obtain ⟨w3, rfl⟩ : ∃ x : World, x = wc := ⟨_, rfl⟩
        clear I2 HS H2
        go_upto_region 6 with fail
        go_cut [25] (fun c wx => c = .bool (signT ⟨#[58]⟩ r2) ∧ Hid (StI N T en R M w s2 (if signT ⟨#[58]⟩ r2 = true then r2.tail else r2) wx))
        case first =>
          cases hs : signT ⟨#[58]⟩ r2 with
          | true =>
            go_wp2_with (go_at_call 46; (with_reducible refine (lis_yes ⟨#[58]⟩ I3.out.sb.rdr hs).mono ?_); rintro e w4 ⟨rfl, r_, k_⟩; have I4 := Lib.hid (I3.out.rdr_to k_ r_ (by have := signT_len hs; omega)); clear r_ k_)
            go_meet
            rw [hs]
            exact ⟨rfl, I4⟩
          | false =>
            go_wp2_with (go_at_call 46; (with_reducible refine (lis_no ⟨#[58]⟩ I3.out.sb.rdr hs).mono ?_); rintro e w4 ⟨rfl, r_, k_⟩; have I4 := Lib.hid (I3.out.rdr_to k_ r_ (Nat.le_refl _)); clear r_ k_)
            go_meet
            rw [hs]
            exact ⟨rfl, I4⟩
        case rest =>
          obtain ⟨rfl, I4⟩ := hcut
          obtain ⟨w4, rfl⟩ : ∃ x : World, x = wc := ⟨_, rfl⟩
          clear I3
          go_upto_if 25 with fail
          go_cut [] (fun wx => ∃ (s3 : StT) (r3 : List LTok), Hid (StI N T en R M w s3 r3 wx) ∧ Hid (stmtT en lab l = tail3 en s3 r3))
          case first =>
            cases hs : signT ⟨#[58]⟩ r2 with
            | true =>
              rw [hs] at I4
              have I4 : Hid (StI N T en R M w s2 r2.tail w4) := I4
              go_wp2_with (go_at_call 47; (refine (ljumps_any I4.out.sb HY.out.1 HY.out.2).mono ?_); intro e w5 h_; rcases hu : jumpsT en s2 r2.tail with e0 | ⟨s3, r3⟩; (obtain ⟨k_, rfl⟩ := h_.bad hu; have f_ : StQ N (stmtT en lab l) w (.panicked [{ v := lineOops e0, recovered := false }]) _ := StQ.thrown (I4.out.k.step k_ (fun y hy => by have := I4.out.lt; rcases hy with rfl | rfl; exact .inl rfl; exact .inr (by omega))) (Kept.refl _ _) (by rw [H3.out]; unfold tailT; rw [show signT (bs [58]) r2 = true from hs, if_pos rfl, hu]); exact ⟨rfl, f_⟩); (obtain ⟨k_, rfl, s_⟩ := h_.ok hu; have HU := Lib.hid hu; have I5 := Lib.hid (I4.out.step k_ s_); clear k_ s_ h_ hu))
              go_meet
              exact ⟨s3, r3, I5, by unfold Hid; rw [H3.out]; unfold tailT; rw [show signT (bs [58]) r2 = true from hs, if_pos rfl, HU.out]; rfl⟩
            | false =>
              rw [hs] at I4
              have I4 : Hid (StI N T en R M w s2 r2 w4) := I4
              go_wp2_with fail
              go_meet
              exact ⟨s2, r2, I4, by unfold Hid; rw [H3.out]; unfold tailT; rw [show signT (bs [58]) r2 = false from hs, if_neg (by decide)]; rfl⟩
          case rest =>
            obtain ⟨s3, r3, I5, H5⟩ := hcut
            obtain ⟨w5, rfl⟩ : ∃ x : World, x = wc := ⟨_, rfl⟩
            clear I4 H3 HY
            go_upto_region 8 with fail
            obtain ⟨nq, aq, cq, hq⟩ := I5.out.sb.rdr
            obtain ⟨c0, c1, cd, cf⟩ := hq.c0
            have hn := hq.num
            have HA := Lib.hid (lat_any hq)
            clear hq cf
            by_cases h0 : r3 = []
            · have z : decide ((0 : Int) < (nq : Int)) = false := by rw [hn, h0]; rfl
              have z' : decide (0 < nq) = false := by rw [hn, h0]; rfl
              have H6 : Hid (stmtT en lab l = if 200 < depT s3.target ∨ 200 < depT s3.value then .error (4, 0) else .ok s3) := by unfold Hid; rw [H5.out]; unfold tail3; rw [if_neg (fun h => h h0)]
              clear hn h0 H5
              obtain ⟨⟨S1, hp1⟩, ⟨S2, hp2⟩⟩ := I5.out.sb.patT
              have hs1 := I5.out.sb.sz.target.t; have hs2 := I5.out.sb.sz.value.t
              have hC1 := Lib.hid (depth_any _ s3.target M 2 S1 w5 (Nat.le_refl _) (by omega) hp1)
              have hC2 := Lib.hid (depth_any _ s3.value M 7 S2 w5 (Nat.le_refl _) (by omega) hp2)
              have hd1 := dep_size s3.target; have hd2 := dep_size s3.value
              have hb1 : depT s3.target ≤ 1048576 := by omega
              have hb2 : depT s3.value ≤ 1048576 := by omega
              obtain ⟨da, hda⟩ : ∃ d, d = depT s3.target := ⟨_, rfl⟩
              obtain ⟨db, hdb⟩ : ∃ d, d = depT s3.value := ⟨_, rfl⟩
              rw [← hda] at hC1 hb1 H6
              rw [← hdb] at hC2 hb2 H6
              clear hp1 hp2 hs1 hs2 hd1 hd2 hda hdb
              by_cases hx : 200 < da
              · have y1 : decide ((200 : Int) < (da : Int)) = true := decide_eq_true (by omega)
                have y2 : decide (200 < da) = true := decide_eq_true hx
                have fin : Hid (stmtT en lab l = .error (4, 0)) := by unfold Hid; rw [H6.out, if_pos (.inl hx)]
                clear hx H6
                go_wp2_with (first
                  | (go_at_call 50; (refine hC1.out.mono ?_); rintro e w' ⟨rfl, hw_⟩; obtain rfl := hw_.symm)
                  | (go_at_call 48; (refine (lfail_any _ 4 0 w5).mono ?_); rintro e w9 ⟨rfl, rfl⟩))
                exact ⟨rfl, StQ.thrown I5.out.k (Kept.refl _ _) fin.out⟩
              · have y1 : decide ((200 : Int) < (da : Int)) = false := decide_eq_false (by omega)
                have y2 : decide (200 < da) = false := decide_eq_false hx
                by_cases hy : 200 < db
                · have y3 : decide ((200 : Int) < (db : Int)) = true := decide_eq_true (by omega)
                  have y4 : decide (200 < db) = true := decide_eq_true hy
                  have fin : Hid (stmtT en lab l = .error (4, 0)) := by unfold Hid; rw [H6.out, if_pos (.inr hy)]
                  clear hx hy H6
                  go_wp2_with (first
                    | (go_at_call 50; (with_reducible refine hC1.out.mono ?_); rintro e w' ⟨rfl, hw_⟩; obtain rfl := hw_.symm)
                    | (go_at_call 50; (with_reducible refine hC2.out.mono ?_); rintro e w' ⟨rfl, hw_⟩; obtain rfl := hw_.symm)
                    | (go_at_call 48; (refine (lfail_any _ 4 0 w5).mono ?_); rintro e w9 ⟨rfl, rfl⟩))
                  exact ⟨rfl, StQ.thrown I5.out.k (Kept.refl _ _) fin.out⟩
                · have y3 : decide ((200 : Int) < (db : Int)) = false := decide_eq_false (by omega)
                  have y4 : decide (200 < db) = false := decide_eq_false hy
                  have fin : Hid (stmtT en lab l = .ok s3) := by unfold Hid; rw [H6.out, if_neg (by omega)]
                  clear hx hy H6
                  obtain ⟨a, S, hB, hO, hS⟩ := I5.out.sb.st
                  have HBB := Lib.hid hB; have HO := Lib.hid hO; have HSS := Lib.hid hS
                  have HZ5 := Lib.hid I5.out.z
                  clear hB hO hS
                  go_wp2_with (first
                    | (go_at_call 50; (with_reducible refine hC1.out.mono ?_); rintro e w' ⟨rfl, hw_⟩; obtain rfl := hw_.symm)
                    | (go_at_call 50; (with_reducible refine hC2.out.mono ?_); rintro e w' ⟨rfl, hw_⟩; obtain rfl := hw_.symm)
                    | (refine wpList_load_st rfl _ rfl M 0 rfl a s3 HBB.out.hc0 ?_)
                    | (refine wpList_store_st rfl _ _ rfl R rfl a s3 rfl _ HZ5.out rfl ?_; intro w6 hB6 hk6; have HB6 := Lib.hid hB6; have HK6 := Lib.hid hk6; clear hB6 hk6))
                  have hlt := I5.out.lt
                  refine ret_st 4 rfl rfl HB6.out ⟨I5.out.k.step HK6.out (fun y hy => .inr (by omega)), ?_⟩
                  rw [fin.out]
                  exact ⟨a, S, rfl, I5.out.sb.sz, HO.out.to HK6.out (fun b hb => ⟨(HSS.out b hb).2, by have := HSS.out b hb; omega⟩) (fun _ h => h), fun b hb => ⟨by have := HSS.out b hb; omega, Nat.lt_of_lt_of_le (HSS.out b hb).2 HK6.out.size⟩⟩
            · have hp : 0 < nq := by rw [hn]; exact List.length_pos_iff.2 h0
              have z : decide ((0 : Int) < (nq : Int)) = true := decide_eq_true (by omega)
              have z' : decide (0 < nq) = true := decide_eq_true hp
              have fin : Hid (stmtT en lab l = .error (2, atT en r3)) := by unfold Hid; rw [H5.out]; unfold tail3; rw [if_pos h0]
              clear hn h0
              go_wp2_with (first
                | (go_at_call 49; (refine HA.out.mono ?_); rintro e w' ⟨rfl, hw_⟩; obtain rfl := hw_.symm)
                | (go_at_call 48; (refine (lfail_any _ 2 (atT en r3) w5).mono ?_); rintro e w9 ⟨rfl, rfl⟩))
              exact ⟨rfl, StQ.thrown I5.out.k (Kept.refl _ _) fin.out⟩
end Go.Proofs.YtlnhcgihpclpaaaGreatDoor

namespace Go.Proofs.YtlnhcgihpclpaaaGreatDoor
set_option linter.all false
open Go.RowKit

theorem takeW_mem {f : UInt8 → Bool} {c : UInt8} : ∀ {l : List UInt8}, c ∈ l.takeWhile f → f c = true
  | [], h => by cases h
  | x :: r, h => by
    rw [List.takeWhile_cons] at h
    split at h
    · rcases List.mem_cons.1 h with rfl | h
      · assumption
      · exact takeW_mem h
    · cases h
theorem digits_run {s : ByteArray} {i : Nat} : ∀ c ∈ (s.extract i (runEnd digitN s i)).data.toList, 48 ≤ c.toNat ∧ c.toNat ≤ 57 := by
  intro c hc
  have e : (s.extract i (runEnd digitN s i)).data.toList = (s.data.toList.drop i).takeWhile digitN := by
    unfold runEnd
    rw [extract_take]
    exact (List.prefix_iff_eq_take.1 (List.takeWhile_prefix _)).symm
  rw [e] at hc
  have := takeW_mem hc
  rw [digitN_eq] at this
  simpa using this
theorem extract_pos {s : ByteArray} {i k : Nat} (h : i < k) (hk : k ≤ s.size) : (s.extract i k).size ≠ 0 := by
  rw [ByteArray.size_extract]; omega
theorem lexStep_good {s : ByteArray} (hs : s.size ≤ 2000) {i : Nat} {h : i < s.size} {t : LTok} {k : Nat} (e : lexStep s i h = .tok t k) : t.at_ ≤ 1000000 ∧ t.text.size ≤ 1000000 ∧ (readQ t.text).2.2 ≤ 1000000 ∧ (t.kind = 2 → t.text.size ≠ 0 ∧ ∀ c ∈ t.text.data.toList, 48 ≤ c.toNat ∧ c.toNat ≤ 57) ∧ (t.kind = 1 → t.text.size ≠ 0) := by
  obtain ⟨h1, h2, h3, h4⟩ := lexStep_next e
  refine ⟨by omega, by omega, by have := read_place t.text; omega, ?_, ?_⟩
  all_goals
    intro hk
    unfold lexStep at e
    split at e
    · cases e
    split at e
    · simp only [LStep.tok.injEq] at e
      obtain ⟨rfl, rfl⟩ := e
      first | (simp at hk; done) | exact extract_pos h1 h2
    split at e
    · simp only [LStep.tok.injEq] at e
      obtain ⟨rfl, rfl⟩ := e
      first | (simp at hk; done) | exact ⟨extract_pos h1 h2, digits_run⟩
    split at e
    · split at e
      · cases e
      · simp only [LStep.tok.injEq] at e; obtain ⟨rfl, rfl⟩ := e; simp at hk
    split at e
    · split at e
      · cases e
      · simp only [LStep.tok.injEq] at e; obtain ⟨rfl, rfl⟩ := e; simp at hk
    split at e
    · simp only [LStep.tok.injEq] at e; obtain ⟨rfl, rfl⟩ := e; simp at hk
    split at e
    · simp only [LStep.tok.injEq] at e; obtain ⟨rfl, rfl⟩ := e; simp at hk
    · cases e
theorem lexGo_good {s : ByteArray} (hs : s.size ≤ 2000) : ∀ (f i : Nat) (out l : List LTok), lexGo s f i out = .ok l → TokB out → out.length ≤ i → i ≤ s.size → TokB l ∧ l.length ≤ s.size
  | 0, i, out, l, h, hb, hl, hi => by
    simp only [lexGo, Except.ok.injEq] at h; subst h; exact ⟨hb, by omega⟩
  | f + 1, i, out, l, h, hb, hl, hi => by
    rw [lexGo] at h
    split at h
    · next hi2 =>
      split at h
      · exact lexGo_good hs f _ _ _ h hb (by omega) (by omega)
      · next t k e =>
        obtain ⟨h1, h2, _, _⟩ := lexStep_next e
        refine lexGo_good hs f _ _ _ h ?_ (by simp; omega) h2
        intro u hu
        rcases List.mem_append.1 hu with hu | hu
        · exact hb u hu
        · rw [List.mem_singleton.1 hu]; exact lexStep_good hs e
      · cases h
    · simp only [Except.ok.injEq] at h; subst h; exact ⟨hb, by omega⟩
theorem lexF_good {s : ByteArray} {l : List LTok} (h : lexF s = .ok l) : TokB l ∧ l.length ≤ 2000 ∧ s.size ≤ 2000 := by
  unfold lexF lexA at h
  split at h
  · cases h
  · obtain ⟨a, b⟩ := lexGo_good (by omega) _ _ _ _ h (fun u hu => by cases hu) (Nat.zero_le _) (Nat.zero_le _)
    exact ⟨a, by omega, by omega⟩
end Go.Proofs.YtlnhcgihpclpaaaGreatDoor

namespace Go.Proofs.YtlnhcgihpclpaaaGreatDoor
set_option linter.all false
open Go.RowKit

def flV (er : Er) : Value := .agg #[.int .i64 er.1, .int .i64 er.2]
def LineQ (s : ByteArray) (w : World) (e : Ending) (w' : World) : Prop :=
  Kept Nix w w' ∧ match lineT s with
    | .ok none => e = .returned (.tuple #[stVal nilA stZ, .bool false, flV (0, 0)])
    | .ok (some st) => ∃ a S, e = .returned (.tuple #[stVal a st, .bool true, flV (0, 0)]) ∧ StSz st ∧ StOk w' S a st ∧ ∀ b, S b → w.heap.size ≤ b ∧ b < w'.heap.size
    | .error er => e = .returned (.tuple #[stVal nilA stZ, .bool false, flV er])
theorem TwoF.of {M : Nat} {c0 c1 : Value} {w : World} (h : Two M c0 c1 w) : w.cell? ⟨M, 0, none⟩ = some c0 ∧ w.cell? ⟨M, 1, none⟩ = some c1 ∧ ∀ o, w.frozen? ⟨M, o, none⟩ = false := h.cells
/-- The three answers of Line: the statement, whether there is one, the fault. -/
structure Tr3 (A B C : Nat) (a : StA) (s : StT) (v c0 c1 : Value) (w : World) : Prop where
  st : StB A a s w
  bo : Cel w B 4 v
  fl : Two C c0 c1 w
theorem Tr3.kept {A B C : Nat} {a : StA} {s : StT} {v c0 c1 : Value} {w w2 : World} {X : Nat → Prop} (h : Tr3 A B C a s v c0 c1 w) (hk : Kept X w w2) (hx : ¬ X A ∧ ¬ X B ∧ ¬ X C) : Tr3 A B C a s v c0 c1 w2 :=
  ⟨h.st.kept hk hx.1, by unfold Cel; rw [hk.block B h.bo.lt hx.2.1]; exact h.bo, h.fl.kept hk hx.2.2⟩
theorem Tr3.drew {A B C : Nat} {a : StA} {s : StT} {v c0 c1 : Value} {w : World} (h : Tr3 A B C a s v c0 c1 w) : Tr3 A B C a s v c0 c1 w.drew := h.kept (Kept.refl Nix w).drew ⟨fun h => h, fun h => h, fun h => h⟩
theorem Tr3.setB {A B C : Nat} {a : StA} {s : StT} {v c0 c1 : Value} {w : World} (h : Tr3 A B C a s v c0 c1 w) (hne : A ≠ B ∧ A ≠ C ∧ B ≠ C) (v2 : Value) : Tr3 A B C a s v2 c0 c1 (w.setCell ⟨B, 0, none⟩ v2) := by
  have k : Kept (· = B) w (w.setCell ⟨B, 0, none⟩ v2) := (Kept.refl (· = B) w).setCell (p := ⟨B, 0, none⟩) (.inl rfl) _
  exact ⟨h.st.kept k hne.1, h.bo.set v2, h.fl.kept k (fun e => hne.2.2 e.symm)⟩
theorem Tr3.setF {A B C : Nat} {a : StA} {s : StT} {v c0 c1 : Value} {w : World} (h : Tr3 A B C a s v c0 c1 w) (hne : A ≠ B ∧ A ≠ C ∧ B ≠ C) (d0 d1 : Value) : Tr3 A B C a s v d0 d1 ((w.setCell ⟨C, 0, none⟩ d0).setCell ⟨C, 1, none⟩ d1) := by
  have k : Kept (· = C) w ((w.setCell ⟨C, 0, none⟩ d0).setCell ⟨C, 1, none⟩ d1) := ((Kept.refl (· = C) w).setCell (p := ⟨C, 0, none⟩) (.inl rfl) _).setCell (p := ⟨C, 1, none⟩) (.inl rfl) _
  exact ⟨h.st.kept k hne.2.1, by unfold Cel; rw [k.block B h.bo.lt hne.2.2]; exact h.bo, by have := h.fl.set2 d0 d1; exact this⟩
theorem Tr3.setS {A B C : Nat} {a a2 : StA} {s s2 : StT} {v c0 c1 : Value} {w w2 : World} (h : Tr3 A B C a s v c0 c1 w) (hne : A ≠ B ∧ A ≠ C ∧ B ≠ C) (hk : Kept (· = A) w w2) (hB : StB A a2 s2 w2) : Tr3 A B C a2 s2 v c0 c1 w2 :=
  ⟨hB, by unfold Cel; rw [hk.block B h.bo.lt (fun e => hne.1 e.symm)]; exact h.bo, h.fl.kept hk (fun e => hne.2.1 e.symm)⟩
/-- Whatever is in them. -/
def Tri (A B C : Nat) (w : World) : Prop := ∃ a s v c0 c1, Tr3 A B C a s v c0 c1 w
section
variable {A B C : Nat} {w : World}
theorem Tri.kept {w2 : World} {X : Nat → Prop} (h : Tri A B C w) (hk : Kept X w w2) (hx : ¬ X A ∧ ¬ X B ∧ ¬ X C) : Tri A B C w2 := by
  obtain ⟨a, s, v, c0, c1, h⟩ := h; exact ⟨_, _, _, _, _, h.kept hk hx⟩
theorem tri_drew (h : Tri A B C w) : Tri A B C w.drew := h.kept (Kept.refl Nix w).drew ⟨fun h => h, fun h => h, fun h => h⟩
theorem tri_B (hne : A ≠ B ∧ A ≠ C ∧ B ≠ C) {v2 : Value} (h : Tri A B C w) : Tri A B C (w.setCell ⟨B, 0, none⟩ v2) := by
  obtain ⟨a, s, v, c0, c1, h⟩ := h; exact ⟨_, _, _, _, _, h.setB hne v2⟩
theorem tri_C0 (hne : A ≠ B ∧ A ≠ C ∧ B ≠ C) {d : Value} (h : Tri A B C w) : Tri A B C (w.setCell ⟨C, 0, none⟩ d) := by
  obtain ⟨a, s, v, c0, c1, h⟩ := h
  have k : Kept (· = C) w (w.setCell ⟨C, 0, none⟩ d) := (Kept.refl (· = C) w).setCell (p := ⟨C, 0, none⟩) (.inl rfl) _
  have hf := h.fl
  refine ⟨_, _, _, d, c1, h.st.kept k hne.2.1, by unfold Cel; rw [k.block B h.bo.lt hne.2.2]; exact h.bo, ?_⟩
  unfold Two at hf ⊢; rw [row_setCell hf _]; rfl
theorem tri_C1 (hne : A ≠ B ∧ A ≠ C ∧ B ≠ C) {d : Value} (h : Tri A B C w) : Tri A B C (w.setCell ⟨C, 1, none⟩ d) := by
  obtain ⟨a, s, v, c0, c1, h⟩ := h
  have k : Kept (· = C) w (w.setCell ⟨C, 1, none⟩ d) := (Kept.refl (· = C) w).setCell (p := ⟨C, 1, none⟩) (.inl rfl) _
  have hf := h.fl
  refine ⟨_, _, _, c0, d, h.st.kept k hne.2.1, by unfold Cel; rw [k.block B h.bo.lt hne.2.2]; exact h.bo, ?_⟩
  unfold Two at hf ⊢; rw [row_setCell hf _]; rfl
theorem cel_set {v : Value} (h : Tri A B C w) : Cel (w.setCell ⟨B, 0, none⟩ v) B 4 v := by obtain ⟨a, s, v0, c0, c1, h⟩ := h; exact h.bo.set v
theorem cel_C (hne : A ≠ B ∧ A ≠ C ∧ B ≠ C) {v d : Value} {i : Nat} (h : Cel w B 4 v) : Cel (w.setCell ⟨C, i, none⟩ d) B 4 v := by
  have k : Kept (· = C) w (w.setCell ⟨C, i, none⟩ d) := (Kept.refl (· = C) w).setCell (p := ⟨C, i, none⟩) (.inl rfl) _
  unfold Cel; rw [k.block B h.lt hne.2.2]; exact h
theorem two_set {d0 d1 : Value} (h : Tri A B C w) : Two C d0 d1 ((w.setCell ⟨C, 0, none⟩ d0).setCell ⟨C, 1, none⟩ d1) := by obtain ⟨a, s, v0, c0, c1, h⟩ := h; have := h.fl.set2 d0 d1; exact this
theorem two_B (hne : A ≠ B ∧ A ≠ C ∧ B ≠ C) {c0 c1 d : Value} (h : Two C c0 c1 w) : Two C c0 c1 (w.setCell ⟨B, 0, none⟩ d) :=
  h.kept ((Kept.refl (· = B) w).setCell (p := ⟨B, 0, none⟩) (.inl rfl) d) (fun e => hne.2.2 e.symm)
theorem st_B (hne : A ≠ B ∧ A ≠ C ∧ B ≠ C) {a : StA} {s : StT} {d : Value} (h : StB A a s w) : StB A a s (w.setCell ⟨B, 0, none⟩ d) :=
  h.kept ((Kept.refl (· = B) w).setCell (p := ⟨B, 0, none⟩) (.inl rfl) d) hne.1
theorem st_C (hne : A ≠ B ∧ A ≠ C ∧ B ≠ C) {a : StA} {s : StT} {d : Value} {i : Nat} (h : StB A a s w) : StB A a s (w.setCell ⟨C, i, none⟩ d) :=
  h.kept ((Kept.refl (· = C) w).setCell (p := ⟨C, i, none⟩) (.inl rfl) d) hne.2.1
theorem Tri.cells (h : Tri A B C w) : (∃ v, w.cell? ⟨B, 0, none⟩ = some v) ∧ w.frozen? ⟨B, 0, none⟩ = false ∧ (∃ v, w.cell? ⟨C, 0, none⟩ = some v) ∧ (∃ v, w.cell? ⟨C, 1, none⟩ = some v) ∧ w.frozen? ⟨C, 0, none⟩ = false ∧ w.frozen? ⟨C, 1, none⟩ = false := by
  obtain ⟨a, s, v0, c0, c1, h⟩ := h
  obtain ⟨x0, x1, xf⟩ := h.fl.cells
  exact ⟨⟨_, h.bo.cell⟩, h.bo.free, ⟨_, x0⟩, ⟨_, x1⟩, xf 0, xf 1⟩
/-- Whatever is written is one of the three. -/
def In3 (A B C : Nat) (b : Nat) : Prop := b = A ∨ b = B ∨ b = C
theorem k3_B {w0 : World} {d : Value} (h : Kept (In3 A B C) w0 w) : Kept (In3 A B C) w0 (w.setCell ⟨B, 0, none⟩ d) := h.setCell (p := ⟨B, 0, none⟩) (.inl (.inr (.inl rfl))) _
theorem k3_C {w0 : World} {d : Value} {i : Nat} (h : Kept (In3 A B C) w0 w) : Kept (In3 A B C) w0 (w.setCell ⟨C, i, none⟩ d) := h.setCell (p := ⟨C, i, none⟩) (.inl (.inr (.inr rfl))) _
end
theorem results_line {f : Func} {tmps : Array Value} (hres : f.results = #[.cell 2 49, .cell 3 4, .cell 4 30]) {A B C : Nat} (h2 : tmps.getD 2 undef = .pointer (some ⟨A, 0, none⟩)) (h3 : tmps.getD 3 undef = .pointer (some ⟨B, 0, none⟩)) (h4 : tmps.getD 4 undef = .pointer (some ⟨C, 0, none⟩))
    {a : StA} {s : StT} {v c0 c1 : Value} {w : World} (h : Tr3 A B C a s v c0 c1 w) : (results f tmps).run Tryz.prog w = .ok (.tuple #[stVal a s, v, .agg #[c0, c1]]) w := by
  have ht2 : tmps[2]?.getD undef = .pointer (some ⟨A, 0, none⟩) := by rw [← h2, Array.getD_eq_getD_getElem?]
  have ht3 : tmps[3]?.getD undef = .pointer (some ⟨B, 0, none⟩) := by rw [← h3, Array.getD_eq_getD_getElem?]
  have ht4 : tmps[4]?.getD undef = .pointer (some ⟨C, 0, none⟩) := by rw [← h4, Array.getD_eq_getD_getElem?]
  have e1 := loadVarSt h.st
  have e2 : (loadVar 4 ⟨B, 0, none⟩).run Tryz.prog w = .ok v w := by have := h.bo.cell; simp [go_sem, this]
  have e3 : (loadVar 30 ⟨C, 0, none⟩).run Tryz.prog w = .ok (.agg #[c0, c1]) w := by obtain ⟨x0, x1, _⟩ := h.fl.cells; simp [go_sem, x0, x1]
  simp [results, hres, ht2, ht3, ht4, asAddr, e1, e2, e3, Sem.run_bind, Sem.run_pure, Result.andThen_ok]
end Go.Proofs.YtlnhcgihpclpaaaGreatDoor
