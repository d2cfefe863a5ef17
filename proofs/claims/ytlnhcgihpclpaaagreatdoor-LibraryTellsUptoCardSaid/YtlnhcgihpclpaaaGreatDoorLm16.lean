/- The program's reader of lines: binary, walked. The program's reader of lines: what primary makes (pure). -/
import Derived.Test.YtlnhcgihpclpaaaGreatDoorLm15
import Derived.Deep.RegionWith
import Derived.Deep.Quiet
namespace Go.Proofs.YtlnhcgihpclpaaaGreatDoor
set_option linter.all false
open Go.RowKit

set_option maxRecDepth 100000 in
set_option maxHeartbeats 8000000 in
theorem lbin_some {N T en d j : Nat} {sub : List LTok → TRes PatT} (hj : j < 3) (HB : BinOk N T en d (j + 1) sub) (hsub : Shr sub) : BinOk N T en d j (levT (j + 1) sub) := by
  intro l w lo B h hlev hlo
  obtain ⟨hN, hT, hne, h7⟩ := h.ltN
  rw [levV_some hj]
  obtain ⟨m, hm⟩ : ∃ m, m = 3 - j := ⟨_, rfl⟩
  have hsl := fun wx => levV_next (B := B) hj hm wx
  rw [← hm]
  have m0 : 0 < m := by omega
  have m1 : (0 : Int) < (m : Int) := by omega
  have zm : ((m : Int) == 0) = false := by simp; omega
  obtain ⟨w0, hw0⟩ : ∃ w0, w0 = w.alloc (.cells #[.int .i64 0, .string ⟨#[]⟩, .int .i64 0, .string ⟨#[]⟩, .slice none 0 0] 44) := ⟨_, rfl⟩
  have k0 : Kept Nix w w0 := by rw [hw0]; exact (Kept.refl _ _).alloc _
  obtain ⟨M4, hM4⟩ : ∃ M, M = w.heap.size := ⟨_, rfl⟩
  have Z0 : Hid (FivE M4 (.int .i64 0) (.string ⟨#[]⟩) (.int .i64 0) (.string ⟨#[]⟩) (.slice none 0 0) w0) := by rw [hw0, hM4]; exact heap_alloc_new w _
  have R0 := Lib.hid (h.kept k0 (fun h => h) (fun h => h))
  have L0 := Lib.hid (hlev.kept k0 (fun _ h => h.elim))
  have K0 := Lib.hid k0; have HW0 := Lib.hid hw0; have HM4 := Lib.hid hM4; have HBN := Lib.hid HB
  have hs0 := hsl w0
  have HSL := Lib.hid hsl; have HLV := Lib.hid hlev; have HLO := Lib.hid hlo; have HJ := Lib.hid hj; have HSH := Lib.hid hsub
  clear k0 hw0 h hM4 HB hlev hlo hj hsub hm hsl
  cases hu : sub l with
  | error e0 =>
    have er : Hid (levT (j + 1) sub l = .error e0) := by unfold Hid levT; rw [hu]
    go_enter Tryz.func87, Tryz.ntmps87
    go_upto_region 1 with fail
    rw [← HW0.out, ← HM4.out]
    go_wp2_with (go_at_call 87; (refine (HBN.out l w0 lo B R0.out L0.out HLO.out).mono ?_); intro e w3 h3_; obtain ⟨k3_, rfl⟩ := h3_.bad hu; have K3 := Lib.hid k3_; clear k3_ h3_)
    refine ⟨rfl, (K0.out.more (fun _ h => h.elim)).trans K3.out, ?_⟩
    rw [er.out]; exact rfl
  | ok z =>
    obtain ⟨p, r⟩ := z
    have er : Hid (levT (j + 1) sub l = chainT (j + 1) sub r.length p r) := by unfold Hid levT; rw [hu]
    have HU := Lib.hid hu
    clear hu
    go_enter Tryz.func87, Tryz.ntmps87
    go_upto_region 1 with fail
    rw [← HW0.out, ← HM4.out]
    go_upto_block 0 with (go_at_call 87; (refine (HBN.out l w0 lo B R0.out L0.out HLO.out).mono ?_); intro e w3 h3_; obtain ⟨k3_, r3_, S, ka, cap, rfl, hS_, hz_, hk_⟩ := h3_.ok HU.out; have K3 := Lib.hid k3_; have R3 := Lib.hid r3_; have HS := Lib.hid hS_; have HZ := Lib.hid hz_; have HK := Lib.hid hk_; clear k3_ r3_ hS_ hz_ hk_ h3_)
    obtain ⟨w5, hw5⟩ : ∃ w5, w5 = w3.alloc (.cells #[.int .i64 p.kind, .string p.text, .int .i64 p.n, .string p.name, .slice ka p.kids.length cap] 44) := ⟨_, rfl⟩
    obtain ⟨M5, hM5⟩ : ∃ M, M = w3.heap.size := ⟨_, rfl⟩
    have k5 : Kept Nix w3 w5 := by rw [hw5]; exact (Kept.refl _ _).alloc _
    have hsz : Hid (w.heap.size < w0.heap.size ∧ w0.heap.size ≤ w3.heap.size ∧ w5.heap.size = w3.heap.size + 1 ∧ M5 = w3.heap.size ∧ M4 = w.heap.size ∧ N < w.heap.size ∧ T < w.heap.size) := ⟨by have := Z0.out.lt; have := HM4.out; omega, K3.out.size, by rw [hw5]; simp, hM5, HM4.out, hN, hT⟩
    have I0 : Hid (BinI N T en d M4 M5 w p ka cap r w5) := by
      have hz := hsz.out
      refine ⟨R3.out.kept k5 (fun h => h) (fun h => h), by rw [hw5, hM5]; exact heap_alloc_new w3 _, ⟨S, HK.out.kept k5 (fun b hb => ⟨(HS.out b hb).2, fun h => h⟩), fun b hb => by have := HS.out b hb; omega⟩, HZ.out, (Z0.out.kept K3.out (by omega)).kept k5 (fun h => h), ((K0.out.more (fun _ h => h.elim)).trans K3.out).trans (k5.more (fun _ h => h.elim))⟩
    rw [← hw5, ← hM5]
    clear hw5 hM5 k5 hs0
    go_wp2_with fail
    go_loopg [] r.length (fun f wr => ∃ (x : PatT) (l2 : List LTok) (kb : Option Addr) (cb : Nat), l2.length ≤ f ∧ Hid (BinI N T en d M4 M5 w x kb cb l2 wr) ∧ Hid (levT (j + 1) sub l = chainT (j + 1) sub f x l2))
    case atStart => exact ⟨p, r, ka, cap, Nat.le_refl _, I0, er⟩
    case round =>
      obtain ⟨x, l2, kb, cb, hlf, I, hch⟩ := hrel
      obtain ⟨n2, a2, c2, hP⟩ := Lib.hid I.out.rdr
      have HP := Lib.hid hP
      obtain ⟨c0, c1, cd, cf⟩ := hP.c0
      have hn := hP.num
      cases l2 with
      | nil =>
        have z : decide ((0 : Int) < (n2 : Int)) = false := by rw [hn]; rfl
        have z' : decide (0 < n2) = false := by rw [hn]; rfl
        have fin : Hid (levT (j + 1) sub l = .ok (x, [])) := by unfold Hid; rw [hch.out]; cases gk <;> rfl
        clear hn hP cf hch hlf
        go_wp2_with fail
        go_quiet (fail)
        have I2 := Lib.hid (I.out.quiet ((Kept.refl Nix wr).drewN nq))
        obtain ⟨x0, x1, x2, x3, x4, _⟩ := I2.out.five.cells
        obtain ⟨z0, z1, z2, z3, z4, zf⟩ := I2.out.zero.cells
        have zf0 := zf 0; have zf1 := zf 1; have zf2 := zf 2; have zf3 := zf 3; have zf4 := zf 4
        clear zf
        go_wp2_with fail
        exact ret_lexp 4 rfl rfl (I2.out.zero.set5 _ _ _ _ _) (I2.out.fin (by have := hsz.out; omega) (by have := hsz.out; omega) (by have := hsz.out; omega) hN fin.out)
      | cons t r2 =>
        rw [List.length_cons] at hn
        have h0 : 0 < n2 := by omega
        have h1 : (0 : Int) < (n2 : Int) := by omega
        have z : decide ((0 : Int) < (n2 : Int)) = true := decide_eq_true h1
        have z' : decide (0 < n2) = true := decide_eq_true h0
        obtain ⟨o, rfl, t0, t1, t2⟩ := hP.head
        have htb := (hP.good t (List.mem_cons_self ..)).2.1
        obtain ⟨mj, nj, lv, lm⟩ := (HLV.out.kept I.out.kept (fun b hb => by have := HLO.out; omega)).get HJ.out
        have LV := Lib.hid lv; have LM := Lib.hid lm
        obtain ⟨op, hop⟩ : ∃ op, op = opT (j + 1) t.text := ⟨_, rfl⟩
        have hlook : ∀ i, (Instr.lookup 149 (.map (some mj)) (.string t.text) false).run Tryz.prog (wr.drewN i) = .ok (.int .i64 op) (wr.drewN i) := fun i => by
          have := (lm.kept ((Kept.refl Nix wr).drewN i) (fun h => h)).lookL t.text (by unfold maxLen; omega)
          rw [this, opM_get, hop]
        by_cases hk : t.kind = 5
        · have y : (t.kind == 5) = true := by simpa using hk
          by_cases ho : 0 < op
          · have y3 : decide (0 < op) = true := decide_eq_true ho
            obtain ⟨g, rfl⟩ : ∃ g, gk = g + 1 := by cases gk with | zero => simp at hlf | succ g => exact ⟨g, rfl⟩
            have hch2 : Hid (levT (j + 1) sub l = match sub r2 with | .error er => .error er | .ok (y, r) => chainT (j + 1) sub g (node2 op x y) r) := by
              unfold Hid
              have e : opAt (j + 1) (t :: r2) = op := by show (if t.kind = 5 then opT (j + 1) t.text else 0) = op; rw [if_pos hk, ← hop]
              rw [hch.out, chainT, e, if_pos ho]; rfl
            have HLF : Hid (r2.length ≤ g) := by unfold Hid; simp at hlf; omega
            clear hn hP cf hch hlf hop hk ho lm
            go_upto_region 5 with fail
            go_quiet (fail)
            obtain ⟨wA, hwA⟩ : ∃ wA, wA = wr.drewN nq := ⟨_, rfl⟩
            have kA : Kept Nix wr wA := by rw [hwA]; exact (Kept.refl Nix wr).drewN nq
            have IA := Lib.hid (I.out.quiet kA)
            have hPA := HP.out.kept kA (fun h => h) (fun h => h)
            have HPA := Lib.hid hPA
            have lvA := kA.cell (HLV.out.kept I.out.kept (fun b hb => by have := HLO.out; omega)).lt (fun h => h) (o := j)
            rw [LV.out] at lvA
            have hlookA : ∀ i, (Instr.lookup 149 (.map (some mj)) (.string t.text) false).run Tryz.prog (wA.drewN i) = .ok (.int .i64 op) (wA.drewN i) := by
              intro i; rw [hwA, World.drewN_drewN]; exact hlook _
            rw [← hwA]
            clear hwA hlook lv c0 c1 cd t0 t1 t2
            obtain ⟨c0, c1, cd, cf⟩ := hPA.c0
            obtain ⟨o', ho', t0, t1, t2⟩ := hPA.head
            simp only [Option.some.injEq, Addr.mk.injEq, true_and, and_true] at ho'
            subst ho'
            clear hPA cf
            go_upto_region 6 with fail
            go_quiet (fail)
            obtain ⟨wB, hwB⟩ : ∃ wB, wB = wA.drewN nq := ⟨_, rfl⟩
            have kB : Kept Nix wA wB := by rw [hwB]; exact (Kept.refl Nix wA).drewN nq
            have IB := Lib.hid (IA.out.quiet kB)
            have hPB := HPA.out.kept kB (fun h => h) (fun h => h)
            rw [← hwB]
            clear hwB hlookA lvA c0 c1 cd t0 t1 t2
            obtain ⟨c0, c1, cd, cf⟩ := hPB.c0
            obtain ⟨n', a', c', hn', hslB, hR⟩ := hPB.rest
            have hs1 := hslB wB
            have cf0 := cf 0
            obtain ⟨wC, hwC⟩ : ∃ wC, wC = wB.setCell ⟨N, 0, none⟩ (.slice a' n' c') := ⟨_, rfl⟩
            have kC : Kept (· = N) wB wC := by rw [hwC]; exact (Kept.refl (· = N) wB).setCell (p := ⟨N, 0, none⟩) (.inl rfl) _
            rw [← hwC] at hR
            have IC := Lib.hid (IB.out.rdr_to (by have := hsz.out; omega) (by have := hsz.out; omega) kC ⟨_, _, _, hR⟩)
            have HWC := Lib.hid hwC
            clear hslB hPB hR cf hwC kC kB kA
            go_upto_region 7 with fail
            rw [← HWC.out]
            clear hs1 c0 c1 cd cf0
            obtain ⟨x0, x1, x2, x3, x4, xf⟩ := IC.out.five.cells
            have xf0 := xf 0; have xf1 := xf 1; have xf2 := xf 2; have xf3 := xf 3; have xf4 := xf 4
            clear xf
            have hs2 := HSL.out wC.drew
            have CB := Lib.hid (HBN.out r2 wC.drew lo B (IC.out.rdr.kept (Kept.refl Nix wC).drew (fun h => h) (fun h => h)) (HLV.out.kept (IC.out.kept.trans ((Kept.refl _ wC).drew)) (fun b hb => by have := HLO.out; omega)) HLO.out)
            go_region_with (go_at_call 87; (refine CB.out.mono ?_); intro e w3 h3_; rcases hu : sub r2 with e0 | ⟨y, r3⟩; (obtain ⟨k3_, rfl⟩ := h3_.bad hu; have er0 : levT (j + 1) sub l = .error e0 := (by rw [hch2.out, hu]); have fin0 : XQ N T en d (levT (j + 1) sub l) w (.panicked [{ v := lineOops e0, recovered := false }]) w3 := ⟨IC.out.kept.trans ((Kept.refl (· = N) wC).drew.trans k3_), by rw [er0]; exact rfl⟩; exact ⟨rfl, fin0⟩); (obtain ⟨k3_, r3_, S2, kc, cc, rfl, hS_, hz_, hk_⟩ := h3_.ok hu; have K3 := Lib.hid ((Kept.refl (· = N) wC).drew.trans k3_); have R3 := Lib.hid r3_; have HS2 := Lib.hid hS_; have HZ2 := Lib.hid hz_; have HK2 := Lib.hid hk_; have HU := Lib.hid hu; have I3 := Lib.hid (IC.out.rdr_to (by have := hsz.out; omega) (by have := hsz.out; omega) K3.out R3.out); obtain ⟨y0, y1, y2, y3, y4, -⟩ := I3.out.five.cells; obtain ⟨g0, g1, g2, g3, g4, gf⟩ := (I3.out.five.kept ((Kept.refl Nix w3).alloc (.cells #[.int .i64 x.kind, .string x.text, .int .i64 x.n, .string x.name, .slice kb x.kids.length cb, .int .i64 y.kind, .string y.text, .int .i64 y.n, .string y.name, .slice kc y.kids.length cc] 44)) (fun h => h)).cells; have gf0 := gf 0; have gf1 := gf 1; have gf2 := gf 2; have gf3 := gf 3; have gf4 := gf 4; clear gf k3_ r3_ hS_ hz_ hk_ h3_ hu))
            all_goals
              have er : Hid (levT (j + 1) sub l = chainT (j + 1) sub g (node2 op x y) r3) := by unfold Hid; rw [hch2.out, HU.out]
              have HR3 : Hid (r3.length ≤ g) := by have := HSH.out r2 y r3 HU.out; have := HLF.out; unfold Hid; omega
              have I5 : Hid (BinI N T en d M4 M5 w (node2 op x y) (some ⟨w3.heap.size, 0, none⟩) 2 r3 (set5 (w3.alloc (.cells #[.int .i64 x.kind, .string x.text, .int .i64 x.n, .string x.name, .slice kb x.kids.length cb, .int .i64 y.kind, .string y.text, .int .i64 y.n, .string y.name, .slice kc y.kids.length cc] 44)) M5 (.int .i64 op) (.string ⟨#[]⟩) (.int .i64 0) (.string ⟨#[]⟩) (.slice (some ⟨w3.heap.size, 0, none⟩) 2 2))) := (IC.out.step op (by have := hsz.out; omega) (by have := hsz.out; omega) (by have := hsz.out; omega) (by have := hsz.out; omega) hN hT K3.out R3.out (fun b hb => HS2.out b hb) HZ2.out HK2.out rfl)
              go_wp2_with fail
              go_roundg g
              case measure => omega
              case rel => exact ⟨node2 op x y, r3, _, _, HR3.out, I5, er⟩
          · have y3 : decide (0 < op) = false := decide_eq_false ho
            have fin : Hid (levT (j + 1) sub l = .ok (x, t :: r2)) := by unfold Hid; rw [hch.out]; cases gk with
              | zero => rfl
              | succ g => rw [chainT, if_neg (by show ¬ 0 < (if t.kind = 5 then opT (j + 1) t.text else 0); rw [if_pos hk, ← hop]; exact ho)]
            clear hn hP cf hch hlf hop hk ho lm
            go_wp2_with fail
            go_quiet (fail)
            have I2 := Lib.hid (I.out.quiet ((Kept.refl Nix wr).drewN nq))
            obtain ⟨x0, x1, x2, x3, x4, _⟩ := I2.out.five.cells
            obtain ⟨z0, z1, z2, z3, z4, zf⟩ := I2.out.zero.cells
            have zf0 := zf 0; have zf1 := zf 1; have zf2 := zf 2; have zf3 := zf 3; have zf4 := zf 4
            clear zf
            go_wp2_with fail
            exact ret_lexp 4 rfl rfl (I2.out.zero.set5 _ _ _ _ _) (I2.out.fin (by have := hsz.out; omega) (by have := hsz.out; omega) (by have := hsz.out; omega) hN fin.out)
        · have y : (t.kind == 5) = false := by simpa using hk
          have fin : Hid (levT (j + 1) sub l = .ok (x, t :: r2)) := by unfold Hid; rw [hch.out]; cases gk with
            | zero => rfl
            | succ g => rw [chainT, if_neg (by show ¬ 0 < (if t.kind = 5 then opT (j + 1) t.text else 0); rw [if_neg hk]; decide)]
          clear hn hP cf hch hlf hop hk lm hlook
          go_wp2_with fail
          go_quiet (fail)
          have I2 := Lib.hid (I.out.quiet ((Kept.refl Nix wr).drewN nq))
          obtain ⟨x0, x1, x2, x3, x4, _⟩ := I2.out.five.cells
          obtain ⟨z0, z1, z2, z3, z4, zf⟩ := I2.out.zero.cells
          have zf0 := zf 0; have zf1 := zf 1; have zf2 := zf 2; have zf3 := zf 3; have zf4 := zf 4
          clear zf
          go_wp2_with fail
          exact ret_lexp 4 rfl rfl (I2.out.zero.set5 _ _ _ _ _) (I2.out.fin (by have := hsz.out; omega) (by have := hsz.out; omega) (by have := hsz.out; omega) hN fin.out)
end Go.Proofs.YtlnhcgihpclpaaaGreatDoor

namespace Go.Proofs.YtlnhcgihpclpaaaGreatDoor
set_option linter.all false
open Go.RowKit

theorem parse_num : ∀ (l : List UInt8) (acc : Nat), (∀ c ∈ l, 48 ≤ c.toNat ∧ c.toNat ≤ 57) →
    (l.foldl (fun n c => n * 10 + (c.toNat - 48)) acc ≤ 18446744073709551615 → Lib.parseUintM (2 ^ 64 - 1) acc l = .ok (l.foldl (fun n c => n * 10 + (c.toNat - 48)) acc)) ∧
    (18446744073709551615 < l.foldl (fun n c => n * 10 + (c.toNat - 48)) acc → acc ≤ 18446744073709551615 → Lib.parseUintM (2 ^ 64 - 1) acc l = .range) := by
  have grow : ∀ (l : List UInt8) (acc : Nat), acc ≤ l.foldl (fun n c => n * 10 + (c.toNat - 48)) acc := by
    intro l
    induction l with
    | nil => intro acc; exact Nat.le_refl _
    | cons c r ih => intro acc; rw [List.foldl_cons]; exact Nat.le_trans (by omega) (ih _)
  intro l
  induction l with
  | nil => intro acc _; exact ⟨fun _ => rfl, fun h h2 => by simp at h; omega⟩
  | cons c r ih =>
    intro acc hd
    have hc := hd c (List.mem_cons_self ..)
    have ih' := ih (acc * 10 + (c.toNat - 48)) (fun x hx => hd x (List.mem_cons_of_mem _ hx))
    rw [List.foldl_cons]
    have hg := grow r (acc * 10 + (c.toNat - 48))
    refine ⟨fun hle => ?_, fun hlt hacc => ?_⟩
    · rw [Lib.parseUintM, if_pos hc, if_neg (by omega), if_neg (by omega)]
      exact ih'.1 hle
    · rw [Lib.parseUintM, if_pos hc]
      by_cases h1 : 1844674407370955162 ≤ acc
      · rw [if_pos h1]
      · rw [if_neg h1]
        by_cases h2 : 2 ^ 64 - 1 < acc * 10 + (c.toNat - 48)
        · rw [if_pos h2]
        · rw [if_neg h2]; exact ih'.2 hlt (by omega)
theorem parseI (l : List UInt8) (h0 : l ≠ []) (hd : ∀ c ∈ l, 48 ≤ c.toNat ∧ c.toNat ≤ 57) :
    (numV l ≤ 9223372036854775807 → Lib.parseIntB 64 l = .ok (numV l)) ∧ (9223372036854775807 < numV l → Lib.parseIntB 64 l = .range) := by
  cases l with
  | nil => exact absurd rfl h0
  | cons c r =>
    have hc := hd c (List.mem_cons_self ..)
    have hp := parse_num (c :: r) 0 hd
    have e : Lib.parseUintB 64 (c :: r) = Lib.parseUintM (2 ^ 64 - 1) 0 (c :: r) := by unfold Lib.parseUintB; rw [if_neg (by simp)]
    have en : numV (c :: r) = (c :: r).foldl (fun n c => n * 10 + (c.toNat - 48)) 0 := rfl
    rw [en]
    refine ⟨fun hle => ?_, fun hlt => ?_⟩
    · unfold Lib.parseIntB
      dsimp only
      rw [if_neg (by omega), e, hp.1 (by omega)]
      dsimp only
      rw [if_neg (by omega), if_neg (by omega), if_neg (by omega)]
    · unfold Lib.parseIntB
      dsimp only
      rw [if_neg (by omega), e]
      by_cases h2 : (c :: r).foldl (fun n c => n * 10 + (c.toNat - 48)) 0 ≤ 18446744073709551615
      · rw [hp.1 h2]
        dsimp only
        rw [if_pos (by omega)]
      · rw [hp.2 (by omega) (by omega)]
/-- A variable that takes over what a callee has handed back. -/
theorem BinI.start {N T en d M4 : Nat} {w w1 w3 : World} {p : PatT} {ka : Option Addr} {cap : Nat} {r : List LTok} {S : Nat → Prop} (Z : FivE M4 (.int .i64 0) (.string ⟨#[]⟩) (.int .i64 0) (.string ⟨#[]⟩) (.slice none 0 0) w3) (K : Kept (· = N) w w3) (hR : PsR N T en r d w3)
    (hS : ∀ b, S b → w1.heap.size ≤ b ∧ b < w3.heap.size) (hz : p.text.size < 1000000000 ∧ p.name.size < 1000000000 ∧ p.kids.length < 1000000000) (hk : PatsAt w3 S ka p.kids) (hN : N < w.heap.size) (hw : w.heap.size ≤ w1.heap.size) (h4 : M4 < w1.heap.size) :
    BinI N T en d M4 w3.heap.size w p ka cap r (w3.alloc (.cells #[.int .i64 p.kind, .string p.text, .int .i64 p.n, .string p.name, .slice ka p.kids.length cap] 44)) := by
  have k5 : Kept Nix w3 (w3.alloc (.cells #[.int .i64 p.kind, .string p.text, .int .i64 p.n, .string p.name, .slice ka p.kids.length cap] 44)) := (Kept.refl _ _).alloc _
  have hsz : (w3.alloc (.cells #[.int .i64 p.kind, .string p.text, .int .i64 p.n, .string p.name, .slice ka p.kids.length cap] 44)).heap.size = w3.heap.size + 1 := by simp
  refine ⟨hR.kept k5 (fun h => h) (fun h => h), heap_alloc_new w3 _, ⟨S, hk.kept k5 (fun b hb => ⟨(hS b hb).2, fun h => h⟩), fun b hb => by have := hS b hb; omega⟩, hz, Z.kept k5 (fun h => h), K.trans (k5.more (fun _ h => h.elim))⟩
/-- A variable for a node of a kind with what a callee has handed back as its only kid. -/
theorem BinI.start1 {N T en d M4 : Nat} {w w1 w3 : World} {p : PatT} {ka : Option Addr} {cap : Nat} {r : List LTok} {S : Nat → Prop} (k : Int) (Z : FivE M4 (.int .i64 0) (.string ⟨#[]⟩) (.int .i64 0) (.string ⟨#[]⟩) (.slice none 0 0) w3) (K : Kept (· = N) w w3) (hR : PsR N T en r d w3)
    (hS : ∀ b, S b → w1.heap.size ≤ b ∧ b < w3.heap.size) (hz : p.text.size < 1000000000 ∧ p.name.size < 1000000000 ∧ p.kids.length < 1000000000) (hk : PatsAt w3 S ka p.kids) (hN : N < w.heap.size) (hw : w.heap.size ≤ w1.heap.size) (h4 : M4 < w1.heap.size) (h13 : w1.heap.size ≤ w3.heap.size) :
    BinI N T en d M4 (w3.heap.size + 1) w (node1 k p) (some ⟨w3.heap.size, 0, none⟩) 1 r ((w3.alloc (.cells #[.int .i64 p.kind, .string p.text, .int .i64 p.n, .string p.name, .slice ka p.kids.length cap] 44)).alloc (.cells #[.int .i64 k, .string ⟨#[]⟩, .int .i64 0, .string ⟨#[]⟩, .slice (some ⟨w3.heap.size, 0, none⟩) 1 1] 44)) := by
  obtain ⟨w4, hw4⟩ : ∃ w4, w4 = w3.alloc (.cells #[.int .i64 p.kind, .string p.text, .int .i64 p.n, .string p.name, .slice ka p.kids.length cap] 44) := ⟨_, rfl⟩
  rw [← hw4]
  have k4 : Kept Nix w3 w4 := by rw [hw4]; exact (Kept.refl _ _).alloc _
  have z4 : w4.heap.size = w3.heap.size + 1 := by rw [hw4]; simp
  have f4 : FivE w3.heap.size (.int .i64 p.kind) (.string p.text) (.int .i64 p.n) (.string p.name) (.slice ka p.kids.length cap) w4 := by rw [hw4]; exact heap_alloc_new w3 _
  have hp1 := pat1E f4 hz (hk.kept k4 (fun b hb => ⟨(hS b hb).2, fun h => h⟩)) (fun b hb => by have := hS b hb; omega)
  have hw13 : w.heap.size ≤ w3.heap.size := K.size
  have hl := Z.lt
  have := BinI.start (w1 := w1) (S := fun b => S b ∨ b = w3.heap.size) (p := node1 k p) (cap := 1) (Z.kept k4 (fun h => h)) (K.trans (k4.more (fun _ h => h.elim))) (hR.kept k4 (fun h => h) (fun h => h)) ?_ ⟨by show E0.size < _; decide, by show E0.size < _; decide, by simp [node1, PatT.kids]⟩ hp1 hN hw h4
  · rw [z4] at this; exact this
  · rintro b (hb | rfl)
    · have := hS b hb; omega
    · omega
/-- The one kid of an item, stored into the variable. -/
theorem BinI.item {N T en d M4 M5 : Nat} {w w1 w3 : World} {nm : ByteArray} {p : PatT} {ka : Option Addr} {cap : Nat} {l1 r : List LTok} {S : Nat → Prop} (h : BinI N T en d M4 M5 w (.mk 3 E0 0 nm []) none 0 l1 w1) (hn4 : N ≠ M4) (hn5 : N ≠ M5) (h45 : M4 ≠ M5) (hw5 : w.heap.size ≤ M5) (hTw : T < w.heap.size) (hNw : N < w.heap.size)
    (hk : Kept (· = N) w1 w3) (hr : PsR N T en r d w3) (hS : ∀ b, S b → w1.heap.size ≤ b ∧ b < w3.heap.size) (hz : p.text.size < 1000000000 ∧ p.name.size < 1000000000 ∧ p.kids.length < 1000000000) (hp : PatsAt w3 S ka p.kids) {w4 : World}
    (hw : w4 = w3.alloc (.cells #[.int .i64 p.kind, .string p.text, .int .i64 p.n, .string p.name, .slice ka p.kids.length cap] 44)) :
    BinI N T en d M4 M5 w (.mk 4 E0 0 nm [p]) (some ⟨w3.heap.size, 0, none⟩) 1 r ((w4.setCell ⟨M5, 0, none⟩ (.int .i64 4)).setCell ⟨M5, 4, none⟩ (.slice (some ⟨w3.heap.size, 0, none⟩) 1 1)) := by
  have h3 := h.rdr_to hn4 hn5 hk hr
  obtain ⟨_, f3, _, z3, o3, k3⟩ := h3
  have k4 : Kept Nix w3 w4 := by rw [hw]; exact (Kept.refl _ _).alloc _
  have hsz : w4.heap.size = w3.heap.size + 1 := by rw [hw]; simp
  have f4 : FivE w3.heap.size (.int .i64 p.kind) (.string p.text) (.int .i64 p.n) (.string p.name) (.slice ka p.kids.length cap) w4 := by rw [hw]; exact heap_alloc_new w3 _
  have g4 := f3.kept k4 (fun h => h)
  have k6 : Kept (· = M5) w4 ((w4.setCell ⟨M5, 0, none⟩ (.int .i64 4)).setCell ⟨M5, 4, none⟩ (.slice (some ⟨w3.heap.size, 0, none⟩) 1 1)) := ((Kept.refl (· = M5) w4).setCell (p := ⟨M5, 0, none⟩) (.inl rfl) _).setCell (p := ⟨M5, 4, none⟩) (.inl rfl) _
  have hw1 : w.heap.size ≤ w1.heap.size := h.kept.size
  have l3 := f3.lt; have o3l := o3.lt; have hw13 := hk.size
  have l1' := h.five.lt
  have hp1 := pat1E f4 hz (hp.kept k4 (fun b hb => ⟨(hS b hb).2, fun h => h⟩)) (fun b hb => by have := hS b hb; omega)
  have hout : ∀ b, (S b ∨ b = w3.heap.size) → w.heap.size ≤ b ∧ b < w4.heap.size ∧ b ≠ M4 ∧ b ≠ M5 ∧ b ≠ N := by
    have := h.zero.lt
    rintro b (hb | rfl)
    · have := hS b hb; omega
    · omega
  refine ⟨(hr.kept k4 (fun h => h) (fun h => h)).kept k6 hn5 (by omega) (by have := hr.ltN; omega), ?_, ⟨fun b => S b ∨ b = w3.heap.size, hp1.kept k6 (fun b hb => ⟨(hout b hb).2.1, (hout b hb).2.2.2.1⟩), fun b hb => by have := hout b hb; have := k6.size; omega⟩, ⟨z3.1, z3.2.1, by simp [PatT.kids]⟩, (o3.kept k4 (fun h => h)).kept k6 h45, (k3.trans (k4.more (fun _ h => h.elim))).step k6 (fun y hy => .inr (by omega))⟩
  unfold FivE at g4 ⊢
  rw [row_setCell (row_setCell g4 _) _]; rfl
/-- What holds while a call's operands are read. -/
structure ArgI (N T en d M4 M5 : Nat) (w : World) (nm : ByteArray) (ks : List PatT) (v : Value) (l : List LTok) (wx : World) : Prop where
  rdr : PsR N T en l d wx
  five : FivE M5 (.int .i64 6) (.string ⟨#[]⟩) (.int .i64 0) (.string nm) v wx
  own : ∃ (cs : List Value) (S : Nat → Prop), Win wx (M5 + 1) 44 5 v ks.length cs ∧ Row5 wx S cs ks ∧ ∀ b, S b → M5 < b ∧ b < wx.heap.size ∧ v.ownBlock ≠ some b
  sz : nm.size < 1000000000
  zero : FivE M4 (.int .i64 0) (.string ⟨#[]⟩) (.int .i64 0) (.string ⟨#[]⟩) (.slice none 0 0) wx
  kept : Kept (· = N) w wx
theorem ArgI.start {N T en d M4 M5 : Nat} {w w1 : World} {nm : ByteArray} {l : List LTok} (h : BinI N T en d M4 M5 w (.mk 3 E0 0 nm []) none 0 l w1) (hn5 : N ≠ M5) (h45 : M4 ≠ M5) (hw5 : w.heap.size ≤ M5) (hTw : T < w.heap.size) (hNw : N < w.heap.size) :
    ArgI N T en d M4 M5 w nm [] (.slice none 0 0) l (w1.setCell ⟨M5, 0, none⟩ (.int .i64 6)) := by
  obtain ⟨h1, h2, _, h5, h6, h7⟩ := h
  have k6 : Kept (· = M5) w1 (w1.setCell ⟨M5, 0, none⟩ (.int .i64 6)) := (Kept.refl (· = M5) w1).setCell (p := ⟨M5, 0, none⟩) (.inl rfl) _
  refine ⟨h1.kept k6 hn5 (by omega) (by have := h1.ltN; omega), ?_, ⟨[], Nix, Win.nil _ _ _ _, by rw [Row5], fun b hb => hb.elim⟩, h5.2.1, h6.kept k6 h45, h7.step k6 (fun y hy => .inr (by omega))⟩
  unfold FivE at h2 ⊢
  rw [row_setCell h2 _]; rfl
theorem ArgI.rdr_to {N T en d M4 M5 : Nat} {w : World} {nm : ByteArray} {ks : List PatT} {v : Value} {l l2 : List LTok} {wx wy : World} (h : ArgI N T en d M4 M5 w nm ks v l wx) (hn4 : N ≠ M4) (hn5 : N < M5) (hk : Kept (· = N) wx wy) (hr : PsR N T en l2 d wy) : ArgI N T en d M4 M5 w nm ks v l2 wy := by
  obtain ⟨h1, h2, ⟨cs, S, h3, h4, h5⟩, h6, h7, h8⟩ := h
  exact ⟨hr, h2.kept hk (by omega), ⟨cs, S, h3.kept hk (fun k hk e => by have := (h3.lt k hk).1; omega), h4.kept hk (fun b hb => ⟨(h5 b hb).2.1, fun e => by have := (h5 b hb).1; omega⟩), fun b hb => ⟨(h5 b hb).1, Nat.lt_of_lt_of_le (h5 b hb).2.1 hk.size, (h5 b hb).2.2⟩⟩, h6, h7.kept hk (Ne.symm hn4), h8.trans hk⟩
/-- What a call's operands come to. -/
theorem ArgI.done {N T en d M4 M5 : Nat} {w : World} {nm : ByteArray} {ks : List PatT} {a : Option Addr} {c : Nat} {l : List LTok} {wx : World} (h : ArgI N T en d M4 M5 w nm ks (.slice a ks.length c) l wx) (h45 : M4 < M5) (hw5 : w.heap.size ≤ M5) (hNw : N < w.heap.size) (hks : ks.length ≤ 8) :
    BinI N T en d M4 M5 w (.mk 6 E0 0 nm ks) a c l wx := by
  obtain ⟨h1, h2, ⟨cs, S, h3, h4, h5⟩, h6, h7, h8⟩ := h
  refine ⟨h1, h2, ?_, ⟨by show E0.size < _; decide, h6, by show ks.length < _; omega⟩, h7, h8⟩
  rcases h3.cells with ⟨hv, hn⟩ | ⟨g, o, c', hv, hg1, hg2, _, _, hc⟩
  · obtain rfl := List.length_eq_zero_iff.1 hn
    exact ⟨Nix, by show PatsAt wx Nix a []; unfold PatsAt; trivial, fun b hb => hb.elim⟩
  · simp only [Value.slice.injEq, true_and] at hv
    obtain ⟨rfl, rfl⟩ := hv
    refine ⟨fun b => S b ∨ b = g, h4.pats g o (fun j u hu => (hc j u hu).1), fun b hb => ?_⟩
    rcases hb with hb | rfl
    · have := h5 b hb; omega
    · omega
theorem ArgI.step {N T en d M4 M5 : Nat} {w : World} {nm : ByteArray} {ks : List PatT} {v : Value} {l r : List LTok} {w1 w3 w4 : World} {q : PatT} {kc : Option Addr} {kcap : Nat} {a' : Option Addr} {c' : Nat} {cs : List Value} {S1 S2 : Nat → Prop}
    (I : ArgI N T en d M4 M5 w nm ks v l w1) (h1 : Win w1 (M5 + 1) 44 5 v ks.length cs) (h2 : Row5 w1 S1 cs ks) (h3 : ∀ b, S1 b → M5 < b ∧ b < w1.heap.size ∧ v.ownBlock ≠ some b) (h45 : M4 < M5) (hw5 : w.heap.size ≤ M5) (hNw : N < w.heap.size) (hTw : T < w.heap.size) (hw4 : w.heap.size ≤ M4)
    (K3 : Kept (· = N) w1 w3) (hr : PsR N T en r d w3) (hz : q.text.size < 1000000000 ∧ q.name.size < 1000000000 ∧ q.kids.length < 1000000000) (hS2 : ∀ b, S2 b → w1.heap.size ≤ b ∧ b < w3.heap.size) (hq : PatsAt w3 S2 kc q.kids)
    (hw : Win w4 (M5 + 1) 44 5 (.slice a' (ks.length + 1) c') (ks.length + 1) (cs ++ [.int .i64 q.kind, .string q.text, .int .i64 q.n, .string q.name, .slice kc q.kids.length kcap])) (hg : (w3.alloc (.cells #[.int .i64 q.kind, .string q.text, .int .i64 q.n, .string q.name, .slice kc q.kids.length kcap] 44)).grownBy w4 v.ownBlock)
    (ho : (Value.slice a' (ks.length + 1) c').ownBlock = v.ownBlock ∨ (Value.slice a' (ks.length + 1) c').ownBlock = some (w3.heap.size + 1)) :
    ArgI N T en d M4 M5 w nm (ks ++ [q]) (.slice a' (ks.length + 1) c') r (w4.setCell ⟨M5, 4, none⟩ (.slice a' (ks.length + 1) c')) := by
  have kA : Kept Nix w3 (w3.alloc (.cells #[.int .i64 q.kind, .string q.text, .int .i64 q.n, .string q.name, .slice kc q.kids.length kcap] 44)) := (Kept.refl _ _).alloc _
  have hlow : ∀ b, v.ownBlock = some b → M5 + 1 ≤ b ∧ b < w1.heap.size := h1.lt
  have hs3 := K3.size
  have hl5 := I.five.lt
  have K34 : Kept (fun b => v.ownBlock = some b) w3 w4 := (kA.more fun _ h => h.elim).grown hg fun b hb => .inl hb
  have K5 : Kept (· = M5) w4 (w4.setCell ⟨M5, 4, none⟩ (.slice a' (ks.length + 1) c')) := (Kept.refl (· = M5) w4).setCell (p := ⟨M5, 4, none⟩) (.inl rfl) _
  have hs34 := K34.size
  have hnew : ∀ g, (Value.slice a' (ks.length + 1) c').ownBlock = some g → M5 + 1 ≤ g := fun g hg => (hw.lt g hg).1
  have I3 := I.rdr_to (by omega) (by omega) K3 hr
  have x4 : FivE M5 (.int .i64 6) (.string ⟨#[]⟩) (.int .i64 0) (.string nm) v w4 := I3.five.kept K34 (fun h => by have := hlow _ h; omega)
  refine ⟨(hr.kept K34 (fun h => by have := hlow _ h; omega) (fun h => by have := hlow _ h; omega) (fun h => by have := hlow _ h; have := hr.ltN; omega)).kept K5 (by omega) (by omega) (by have := hr.ltN; omega), ?_, ?_, I.sz, (I3.zero.kept K34 (fun h => by have := hlow _ h; omega)).kept K5 (by omega), (I3.kept.step K34 (fun y hy => .inr (by have := hlow y hy; omega))).step K5 (fun y hy => .inr (by omega))⟩
  · unfold FivE at x4 ⊢
    rw [row_setCell x4 _]; rfl
  refine ⟨_, fun b => S1 b ∨ S2 b, by rw [List.length_append]; exact hw.kept K5 (fun g hg => by have := hnew g hg; omega), ?_, fun b hb => ?_⟩
  · refine Row5.kept (X := (· = M5)) (w := w4) ?_ K5 (fun b hb => ⟨by rcases hb with hb | hb; have := (h3 b hb).2.1; omega; exact Nat.lt_of_lt_of_le (hS2 b hb).2 hs34, by rcases hb with hb | hb; have := h3 b hb; omega; have := hS2 b hb; omega⟩)
    refine Row5.append ?_ ?_
    · exact ((h2.kept K3 (fun b hb => ⟨(h3 b hb).2.1, by have := h3 b hb; omega⟩)).kept K34 (fun b hb => ⟨by have := h3 b hb; omega, (h3 b hb).2.2⟩)).more fun b h => .inl h
    · rw [Row5]; refine ⟨_, [], (List.append_nil _).symm, ⟨kc, kcap, rfl, hz, ?_⟩, rfl⟩
      exact PatsAt.to hq K34 (fun b hb => ⟨(hS2 b hb).2, fun h => by have := hlow b h; have := (hS2 b hb).1; omega⟩) (fun b h => .inr h)
  · have hs5 := K5.size
    rcases hb with hb | hb
    · have := h3 b hb
      refine ⟨this.1, by omega, ?_⟩
      rcases ho with h | h
      · rw [h]; exact this.2.2
      · rw [h]; simp; omega
    · have := hS2 b hb
      refine ⟨by omega, by omega, ?_⟩
      rcases ho with h | h
      · rw [h]; intro h'; have := hlow b h'; omega
      · rw [h]; simp; omega
end Go.Proofs.YtlnhcgihpclpaaaGreatDoor
