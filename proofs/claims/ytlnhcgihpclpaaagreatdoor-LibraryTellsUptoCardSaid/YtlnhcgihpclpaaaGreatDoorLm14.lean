/- The program's reader of lines: pattern. A map from texts to numbers that the call makes: as a function. The operators' levels, as maps that the call makes. The program's reader of lines: unary. The program's reader of lines: unary, walked. -/
import Derived.Test.YtlnhcgihpclpaaaGreatDoorLm13
import Derived.Test.YtlnhcgihpclpaaaGreatDoorLm12
import Derived.Test.YtlnhcgihpclpaaaGreatDoorLm1
import Derived.Maps.Own
import Derived.Maps.OwnOps
import Derived.Maps.OwnSet
import Derived.Maps.Views
namespace Go.Proofs.YtlnhcgihpclpaaaGreatDoor
set_option linter.all false
open Go.RowKit

def PatLQ (N T en : Nat) (l : List LTok) (d : Nat) (w : World) (e : Ending) (w' : World) : Prop :=
  Kept (· = N) w w' ∧ match patT en l with
    | .ok (p, r) => (∃ v, e = .returned v ∧ patVal w.heap.size p w' v) ∧ PsR N T en r d w'
    | .error er => ThrewL er e
theorem results_fiveP {n : Nat} {f : Func} (hres : f.results = #[.cell n 47]) {tmps : Array Value} {M : Nat} (ht : tmps.getD n undef = .pointer (some ⟨M, 0, none⟩)) {c0 c1 c2 c3 c4 : Value} {w : World} (h : Five M c0 c1 c2 c3 c4 w) :
    (results f tmps).run Tryz.prog w = .ok (.agg #[c0, c1, c2, c3, c4]) w := by
  obtain ⟨h0, h1, h2, h3, h4, _⟩ := h.cells
  have ht' : tmps[n]?.getD undef = .pointer (some ⟨M, 0, none⟩) := by rw [← ht, Array.getD_eq_getD_getElem?]
  simp [results, hres, go_sem, ht', h0, h1, h2, h3, h4]
theorem ret_lpat {f : Func} (hres : f.results = #[.cell 2 47]) {tmps : Array Value} {M : Nat} (ht : tmps.getD 2 undef = .pointer (some ⟨M, 0, none⟩)) {c0 c1 c2 c3 c4 : Value} {w2 : World} {Q : Ending → World → Prop} (h : Five M c0 c1 c2 c3 c4 w2)
    (hq : Q (.returned (.agg #[c0, c1, c2, c3, c4])) w2) : bodyPost Tryz.prog f Q .ret ⟨tmps, []⟩ w2 :=
  bodyPost_ret (v := .agg #[c0, c1, c2, c3, c4]) (results_fiveP hres ht h) rfl hq
set_option maxRecDepth 100000 in
set_option maxHeartbeats 4000000 in
theorem lpattern_any {N T en d : Nat} {l : List LTok} {w : World} (h : PsR N T en l d w) : Calls Tryz.prog 68 #[.pointer (some ⟨N, 0, none⟩)] w (PatLQ N T en l d w) := by
  obtain ⟨hN, hT, hne, h7⟩ := h.ltN
  have hb : TokB l := by obtain ⟨_, _, _, h⟩ := h; exact h.good
  obtain ⟨w0, hw0⟩ : ∃ w0, w0 = w.alloc (.cells #[.int .i64 0, .string ⟨#[]⟩, .int .i64 0, .string ⟨#[]⟩, .slice none 0 0] 47) := ⟨_, rfl⟩
  have k0 : Kept Nix w w0 := by rw [hw0]; exact (Kept.refl _ _).alloc _
  have Z0 : Hid (Five w.heap.size (.int .i64 0) (.string ⟨#[]⟩) (.int .i64 0) (.string ⟨#[]⟩) (.slice none 0 0) w0) := by rw [hw0]; exact heap_alloc_new w _
  have P0 := h.kept k0 (fun h => h) (fun h => h)
  have HT := Lib.hid (ltake_any 4 P0)
  unfold TakeLQ at HT
  have K0 := Lib.hid k0; have HW0 := Lib.hid hw0
  clear k0 hw0 P0 h
  cases ht : takeT 4 en l with
  | error er =>
    rw [ht] at HT
    have fin : Hid (patT en l = .error er) := by unfold Hid patT; rw [ht]
    clear ht hb
    go_enter Tryz.func68, Tryz.ntmps68
    go_upto_region 1 with fail
    rw [← HW0.out]
    go_wp2_with (go_at_call 65; (refine HT.out.mono ?_); rintro e w1 ⟨k1_, rfl⟩; have K1 := Lib.hid k1_; clear k1_)
    refine ⟨rfl, (K0.out.more (fun _ h => h.elim)).trans K1.out, ?_⟩
    rw [fin.out]
    exact rfl
  | ok x =>
    obtain ⟨t, r⟩ := x
    rw [ht] at HT
    dsimp only at HT
    unfold ltV at HT
    have htl : t ∈ l := by
      cases l with
      | nil => cases ht
      | cons u v =>
        simp only [takeT] at ht
        split at ht
        · simp only [Except.ok.injEq, Prod.mk.injEq] at ht; obtain ⟨rfl, rfl⟩ := ht; exact List.mem_cons_self ..
        · cases ht
    obtain ⟨hb1, hb2, hb3, -⟩ := hb t htl
    obtain ⟨p, hp⟩ : ∃ p, p = (readQ t.text).1 := ⟨_, rfl⟩
    obtain ⟨e1, he1⟩ : ∃ e1, e1 = (readQ t.text).2.1 := ⟨_, rfl⟩
    obtain ⟨e2, he2⟩ : ∃ e2, e2 = (readQ t.text).2.2 := ⟨_, rfl⟩
    rw [← he2] at hb3
    have HPT : Hid (patT en l = if e1 ≠ 0 then .error (e1, t.at_ + 1 + e2) else .ok (p, r)) := by unfold Hid patT; rw [ht]; dsimp only; rw [hp, he1, he2]
    have HRD : Hid (∀ wy, Calls Tryz.prog 86 #[.string t.text] wy (fun e w' => Kept Nix wy w' ∧ ∃ S ka cap, e = .returned (.tuple #[.agg #[.int .i64 p.kind, .string p.text, .int .i64 p.n, .string p.name, .slice ka p.kids.length cap], .agg #[.int .i64 e1, .int .i64 e2]]) ∧ (∀ b, S b → wy.heap.size ≤ b ∧ b < w'.heap.size) ∧ (p.text.size < 1000000000 ∧ p.name.size < 1000000000 ∧ p.kids.length < 1000000000) ∧ PatsAt w' S ka p.kids)) := by
      intro wy
      refine (read_any t.text wy (by unfold maxLen; omega)).mono ?_
      intro e w' hr
      obtain ⟨k, v, rfl, S, hS, ka, cap, rfl, hz, hk⟩ := read_v hr
      rw [← hp] at hz hk
      refine ⟨k, S, ka, cap, ?_, hS, hz, hk⟩
      unfold faultV
      rw [← hp, ← he1, ← he2]
    clear hp he1 he2 ht hb htl
    go_enter Tryz.func68, Tryz.ntmps68
    go_upto_region 1 with fail
    rw [← HW0.out]
    go_upto_region 2 with (go_at_call 65; (refine HT.out.mono ?_); rintro e w1 ⟨k1_, rfl, r1_⟩; have K1 := Lib.hid k1_; have R1 := Lib.hid r1_; clear k1_ r1_)
    obtain ⟨w2, hw2⟩ : ∃ w2, w2 = w1.alloc (.cells #[.int .i64 t.kind, .string t.text, .int .i64 t.at_] 87) := ⟨_, rfl⟩
    have T2 : Hid (Thr w1.heap.size t w2) := by rw [hw2]; exact heap_alloc_new w1 _
    have k2 : Kept Nix w1 w2 := by rw [hw2]; exact (Kept.refl _ _).alloc _
    have R2 := Lib.hid (R1.out.kept k2 (fun h => h) (fun h => h))
    have K2 : Hid (Kept (· = N) w w2) := ((K0.out.more (fun _ h => h.elim)).trans K1.out).trans (k2.more (fun _ h => h.elim))
    have Z2 := Lib.hid ((Z0.out.kept K1.out (by omega)).kept k2 (fun h => h))
    rw [← hw2]
    obtain ⟨M, hM⟩ : ∃ M, M = w1.heap.size := ⟨_, rfl⟩
    obtain ⟨M2, hM2⟩ : ∃ M, M = w.heap.size := ⟨_, rfl⟩
    rw [← hM] at T2 ⊢
    rw [← hM2] at Z0 Z2 ⊢
    have HM2 := Lib.hid hM2
    clear hw2 k2 hM hM2
    obtain ⟨t0, t1, t2, _⟩ := T2.out.cells
    go_upto_region 3 with (go_at_call 86; (refine (HRD.out w2).mono ?_); rintro e w3 ⟨k3_, S, ka, cap, rfl, hS_, hz_, hk_⟩; have K3 := Lib.hid k3_; have HS := Lib.hid hS_; have HZ := Lib.hid hz_; have HK := Lib.hid hk_; clear k3_ hS_ hz_ hk_)
    obtain ⟨w5, hw5⟩ : ∃ w5, w5 = (w3.alloc (.cells #[.int .i64 p.kind, .string p.text, .int .i64 p.n, .string p.name, .slice ka p.kids.length cap] 47)).alloc (.cells #[.int .i64 e1, .int .i64 e2] 30) := ⟨_, rfl⟩
    have k5 : Kept Nix w3 w5 := by rw [hw5]; exact ((Kept.refl _ _).alloc _).alloc _
    have G5 : Hid (Five w3.heap.size (.int .i64 p.kind) (.string p.text) (.int .i64 p.n) (.string p.name) (.slice ka p.kids.length cap) w5) := by rw [hw5]; exact Five.kept (heap_alloc_new w3 _) ((Kept.refl Nix _).alloc _) (fun h => h)
    have F5 : Hid (Fl (w3.heap.size + 1) e1 e2 w5) := by rw [hw5]; exact heap_new2 (by simp)
    have T5 := Lib.hid ((T2.out.kept K3.out (fun h => h)).kept k5 (fun h => h))
    have Z5 := Lib.hid ((Z2.out.kept K3.out (fun h => h)).kept k5 (fun h => h))
    have R5 := Lib.hid ((R2.out.kept K3.out (fun h => h) (fun h => h)).kept k5 (fun h => h) (fun h => h))
    have K5 : Hid (Kept (· = N) w w5) := (K2.out.trans (K3.out.more (fun _ h => h.elim))).trans (k5.more (fun _ h => h.elim))
    have HS5 : Hid (∀ b, S b → w.heap.size ≤ b ∧ b < w5.heap.size ∧ b ≠ M2) := by
      intro b hb
      obtain ⟨x1, x2⟩ := HS.out b hb
      have := K2.out.size; have := k5.size; have := Z2.out.lt
      have := HM2.out
      omega
    have HK5 := Lib.hid (HK.out.kept k5 (fun b hb => ⟨(HS.out b hb).2, fun h => h⟩))
    rw [← hw5]
    obtain ⟨g0, g1, g2, g3, g4, _⟩ := G5.out.cells
    obtain ⟨f0, f1, _, _⟩ := F5.out.cells
    obtain ⟨z0, z1, z2, z3, z4, zf⟩ := Z5.out.cells
    have zf0 := zf 0; have zf1 := zf 1; have zf2 := zf 2; have zf3 := zf 3; have zf4 := zf 4
    clear t0 t1 t2 zf hw5 k5
    obtain ⟨t0, t1, t2, _⟩ := T5.out.cells
    by_cases he : e1 = 0
    · have y : (e1 != 0) = false := by simpa using he
      have fin : Hid (patT en l = .ok (p, r)) := by unfold Hid; rw [HPT.out, if_neg (by simp [he])]
      clear he
      go_wp2_with fail
      refine ret_lpat rfl rfl (Z5.out.set5 _ _ _ _ _) ?_
      have k6 : Kept (· = M2) w5 (set5 w5 M2 (.int .i64 p.kind) (.string p.text) (.int .i64 p.n) (.string p.name) (.slice ka p.kids.length cap)) := (Kept.refl (· = M2) w5).set5 (.inl rfl) _ _ _ _ _
      refine ⟨K5.out.step k6 (fun y hy => .inr (by have := HM2.out; omega)), ?_⟩
      rw [fin.out]
      exact ⟨⟨_, rfl, S, fun b hb => ⟨(HS5.out b hb).1, Nat.lt_of_lt_of_le (HS5.out b hb).2.1 k6.size⟩, ka, cap, rfl, HZ.out, HK5.out.kept k6 (fun b hb => ⟨(HS5.out b hb).2.1, (HS5.out b hb).2.2⟩)⟩, R5.out.kept k6 (by have := HM2.out; omega) (by have := HM2.out; omega) (by have := HM2.out; omega)⟩
    · have y : (e1 != 0) = true := by simpa using he
      have fin : Hid (patT en l = .error (e1, t.at_ + 1 + e2)) := by unfold Hid; rw [HPT.out, if_pos he]
      have hsum : (t.at_ : Int) + 1 + (e2 : Int) = ((t.at_ + 1 + e2 : Nat) : Int) := by omega
      obtain ⟨s3, hs3⟩ : ∃ s3 : Nat, s3 = t.at_ + 1 + e2 := ⟨_, rfl⟩
      rw [← hs3] at hsum fin
      clear he hs3
      go_wp2_with (go_at_call 48; (refine (lfail_any _ e1 s3 w5).mono ?_); rintro e w6 ⟨rfl, rfl⟩)
      refine ⟨rfl, K5.out, ?_⟩
      rw [fin.out]
      exact rfl
end Go.Proofs.YtlnhcgihpclpaaaGreatDoor

namespace Go.Proofs.YtlnhcgihpclpaaaGreatDoor
set_option linter.all false
open Go.RowKit Go.Maps Go.WideMaps

theorem mapLaw : Keyed Tryz.prog 9 := string_keyed Tryz.underlying9
theorem zeroInt (w : World) : (zeroValue 3).run Tryz.prog w = .ok (.int .i64 0) w := by kernel_rfl
/-- Block B is a map of at most n entries that has what m says. -/
def MapF (w : World) (B n : Nat) (m : ByteArray → Option Int) : Prop :=
  ∃ D : DataW Unit, w.ownsMap Tryz.prog 9 (plainElem Tryz.prog 3) B n D ∧ IsMap D ∧
    ∀ s : ByteArray, Maps.has D (.string s.data.toList) = (m s).isSome ∧ ∀ z, D.atKey (.string s.data.toList) z = match m s with | some c => .lit (.int .i64 c) | none => z
theorem MapF.made (w : World) : MapF (w.alloc (.map #[] 0)) w.heap.size 0 (fun _ => none) :=
  ⟨.map [], World.ownsMap_made w _ _ _, ⟨[], rfl⟩, fun s => ⟨rfl, fun z => rfl⟩⟩
theorem MapF.lt {w : World} {B n : Nat} {m : ByteArray → Option Int} (h : MapF w B n m) : B < w.heap.size := by
  obtain ⟨D, h, _⟩ := h; exact h.lt
theorem MapF.kept {w w' : World} {B n : Nat} {m : ByteArray → Option Int} {X : Nat → Prop} (h : MapF w B n m) (hk : Kept X w w') (hx : ¬ X B) : MapF w' B n m := by
  have hlt := h.lt
  obtain ⟨D, ⟨es, clock, hb, F, hs, hD⟩, h2⟩ := h
  exact ⟨D, ⟨es, clock, (hk.block B hlt hx).trans hb, F, hs, hD⟩, h2⟩
theorem bytes_ne {s t : ByteArray} (h : s ≠ t) : (Lit.string s.data.toList) ≠ .string t.data.toList := by
  intro e
  simp only [Lit.string.injEq] at e
  apply h
  obtain ⟨x⟩ := s; obtain ⟨y⟩ := t
  have : x = y := Array.toList_inj.1 e
  rw [this]
def putM (m : ByteArray → Option Int) (k : ByteArray) (c : Int) : ByteArray → Option Int := fun s => if s = k then some c else m s

end Go.Proofs.YtlnhcgihpclpaaaGreatDoor

namespace Go.Proofs.YtlnhcgihpclpaaaGreatDoor
set_option linter.all false
open Go.RowKit Go.Maps Go.WideMaps

theorem MapF.lookL {w : World} {B n : Nat} {m : ByteArray → Option Int} (h : MapF w B n m) (s : ByteArray) (hs : s.size ≤ maxLen) :
    (Instr.lookup 149 (.map (some B)) (.string s) false).run Tryz.prog w = .ok (.int .i64 ((m s).getD 0)) w := by
  obtain ⟨D, hown, hmap, hD⟩ := h
  obtain ⟨c, hrun, hat, _⟩ := hown.lookup_int mapLaw Tryz.underlying149 Tryz.underlying3 (zeroInt w) (keyOf_string_mk Tryz.underlying9 hs)
  obtain ⟨h1, h2⟩ := hD s
  rw [h2] at hat
  rw [hrun]
  cases hms : m s with
  | none => rw [hms] at hat; simp only [DataW.lit.injEq, Lit.int.injEq, true_and] at hat; subst hat; rfl
  | some d => rw [hms] at hat; simp only [DataW.lit.injEq, Lit.int.injEq, true_and] at hat; subst hat; rfl
theorem MapF.updateL {w : World} {B n : Nat} {m : ByteArray → Option Int} (h : MapF w B n m) (hn : n < maxLen) (s : ByteArray) (hs : s.size ≤ maxLen) (c : Int) (hc : (Lit.int .i64 c).wf = true) :
    ∃ w', (Instr.mapUpdate 149 (.map (some B)) (.string s) (.int .i64 c)).run Tryz.prog w = .ok () w' ∧ MapF w' B (n + 1) (putM m s c) ∧ Kept (· = B) w w' := by
  obtain ⟨D, hown, hmap, hD⟩ := h
  obtain ⟨w', hrun, hown', hgr⟩ := hown.update mapLaw Tryz.underlying149 hn (val := .int .i64 c) (d := .lit (.int .i64 c)) (ps := []) (keyOf_string_mk Tryz.underlying9 hs) (plainElem_int Tryz.underlying3 hc)
  refine ⟨w', hrun, ⟨_, hown', ?_, fun t => ?_⟩, (Kept.refl (· = B) w).grown hgr fun k hk => .inl (by cases hk; rfl)⟩
  · obtain ⟨es, rfl⟩ := hmap; exact ⟨_, rfl⟩
  · have hkl : WideAt.IsKeyLit (Lit.string s.data.toList) := by first | exact .string _ | trivial | (simp [WideAt.IsKeyLit])
    unfold putM
    by_cases ht : t = s
    · subst ht
      rw [if_pos rfl]
      exact ⟨has_put_same hmap hkl _, fun z => atKey_put_same hmap hkl _ z⟩
    · rw [if_neg ht]
      exact ⟨(has_put_other (bytes_ne ht) _).trans (hD t).1, fun z => (atKey_put_other (bytes_ne ht) _ z).trans ((hD t).2 z)⟩
theorem wpList_ins {w : World} {ops : Array Oper} {rest : List Oper} {o : Oper} {a : Act} {Q : Exit → Act → World → Prop} (hg : o.guard = none) (p x y : Operand) (hop : o.op = Op.insert 149 p x y)
    {B n : Nat} {m : ByteArray → Option Int} (hm : a.eval p = .map (some B)) (h : MapF w B n m) (hn : n < maxLen) (s : ByteArray) (hx : a.eval x = .string s) (hs : s.size ≤ maxLen) (c : Int) (hy : a.eval y = .int .i64 c) (hc : (Lit.int .i64 c).wf = true)
    (hK : ∀ w', MapF w' B (n + 1) (putM m s c) → Kept (· = B) w w' → wpList Tryz.prog ops Q rest (a.put o.dst undef) w') : wpList Tryz.prog ops Q (o :: rest) a w := by
  obtain ⟨w', hrun, hv, hk⟩ := h.updateL hn s hs c hc
  refine wpList_plain hg fun K' hK' => ?_
  unfold Oper.wp
  simp [execOp, hop, hm, hx, hy, hrun, Result.andThen]
  exact hK' _ _ (hK w' hv hk)
def opM (lev : Nat) (s : ByteArray) : Option Int := if opT lev s = 0 then none else some (opT lev s)
theorem opM_get (lev : Nat) (s : ByteArray) : (opM lev s).getD 0 = opT lev s := by
  unfold opM; split
  · rename_i h; rw [h]; rfl
  · rfl
theorem opM1 : putM (fun _ => none) ⟨#[38]⟩ 8 = opM 1 := by
  funext s
  have e : bs [38] = ⟨#[38]⟩ := rfl
  unfold putM opM opT
  rw [e]
  by_cases h : s = ⟨#[38]⟩ <;> simp [h]
theorem opM2 : putM (putM (fun _ => none) ⟨#[43]⟩ 9) ⟨#[45]⟩ 10 = opM 2 := by
  funext s
  have e1 : bs [43] = ⟨#[43]⟩ := rfl
  have e2 : bs [45] = ⟨#[45]⟩ := rfl
  have n12 : ¬ (⟨#[45]⟩ : ByteArray) = ⟨#[43]⟩ := by decide
  unfold putM opM opT
  rw [e1, e2]
  by_cases h : s = ⟨#[43]⟩
  · subst h; simp
  · by_cases h2 : s = ⟨#[45]⟩ <;> simp [h, h2]
theorem opM3 : putM (putM (putM (fun _ => none) ⟨#[42]⟩ 11) ⟨#[47]⟩ 12) ⟨#[37]⟩ 13 = opM 3 := by
  funext s
  have e1 : bs [42] = ⟨#[42]⟩ := rfl
  have e2 : bs [47] = ⟨#[47]⟩ := rfl
  have e3 : bs [37] = ⟨#[37]⟩ := rfl
  unfold putM opM opT
  rw [e1, e2, e3]
  by_cases h : s = ⟨#[42]⟩
  · subst h; simp
  · by_cases h2 : s = ⟨#[47]⟩
    · subst h2; simp
    · by_cases h3 : s = ⟨#[37]⟩ <;> simp [h, h2, h3]
/-- The three levels' maps, in a row at block B. -/
structure LevAt (lo B : Nat) (w : World) : Prop where
  low : lo ≤ B
  maps : ∃ m1 m2 m3 n1 n2 n3, lo ≤ m1 ∧ lo ≤ m2 ∧ lo ≤ m3 ∧ w.heap[B]? = some (.cells #[.map (some m1), .map (some m2), .map (some m3)] 149 (0, 0)) ∧ MapF w m1 n1 (opM 1) ∧ MapF w m2 n2 (opM 2) ∧ MapF w m3 n3 (opM 3)
theorem LevAt.kept {lo B : Nat} {w w' : World} {X : Nat → Prop} (h : LevAt lo B w) (hk : Kept X w w') (hx : ∀ b, X b → b < lo) : LevAt lo B w' := by
  obtain ⟨h0, m1, m2, m3, n1, n2, n3, l1, l2, l3, hb, a1, a2, a3⟩ := h
  have hB : B < w.heap.size := (Array.getElem?_eq_some_iff.1 hb).1
  exact ⟨h0, m1, m2, m3, n1, n2, n3, l1, l2, l3, by rw [hk.block B hB (fun h => by have := hx _ h; omega)]; exact hb, a1.kept hk (fun h => by have := hx _ h; omega), a2.kept hk (fun h => by have := hx _ h; omega), a3.kept hk (fun h => by have := hx _ h; omega)⟩
theorem LevAt.lt {lo B : Nat} {w : World} (h : LevAt lo B w) : B < w.heap.size := by
  obtain ⟨h0, m1, m2, m3, n1, n2, n3, l1, l2, l3, hb, _⟩ := h
  exact (Array.getElem?_eq_some_iff.1 hb).1
def LevQ (w : World) (e : Ending) (w' : World) : Prop := ∃ B, e = .returned (.slice (some ⟨B, 0, none⟩) 3 3) ∧ LevAt w.heap.size B w' ∧ Kept Nix w w'
set_option maxRecDepth 100000 in
set_option maxHeartbeats 4000000 in
theorem levels_any (w : World) : Calls Tryz.prog 88 #[] w (LevQ w) := by
  have hmk := fun (wx : World) => run_makeMap (P := Tryz.prog) 149 wx
  have M1 := Lib.hid (MapF.made w)
  have K1 : Hid (Kept Nix w (w.alloc (.map #[] 0))) := (Kept.refl _ _).alloc _
  go_enter Tryz.func88, Tryz.ntmps88
  go_wp2_with (first
    | (refine wpList_ins rfl _ _ _ rfl rfl M1.out (by decide) ⟨#[38]⟩ rfl (by decide) 8 rfl (by decide) ?_; intro w2 m_ k_; have M2 := Lib.hid m_; have K2 : Hid (Kept Nix w w2) := K1.out.step k_ (fun y hy => .inr (Nat.le_of_eq hy.symm)); have N2 := Lib.hid (MapF.made w2); have M2' := Lib.hid (M2.out.kept ((Kept.refl Nix w2).alloc (.map #[] 0)) (fun h => h)); have K2' : Hid (Kept Nix w (w2.alloc (.map #[] 0))) := K2.out.alloc _; have H2 : Hid (w.heap.size < w2.heap.size) := M2.out.lt; clear m_ k_)
    | (refine wpList_ins rfl _ _ _ rfl rfl N2.out (by decide) ⟨#[43]⟩ rfl (by decide) 9 rfl (by decide) ?_; intro w3 m_ k_; have N3 := Lib.hid m_; have M3 := Lib.hid (M2'.out.kept k_ (by have := H2.out; omega)); have K3 : Hid (Kept Nix w w3) := K2'.out.step k_ (fun y hy => .inr (by have := H2.out; omega)); clear m_ k_)
    | (refine wpList_ins rfl _ _ _ rfl rfl N3.out (by decide) ⟨#[45]⟩ rfl (by decide) 10 rfl (by decide) ?_; intro w4 m_ k_; have N4 := Lib.hid m_; have M4 := Lib.hid (M3.out.kept k_ (by have := H2.out; omega)); have K4 : Hid (Kept Nix w w4) := K3.out.step k_ (fun y hy => .inr (by have := H2.out; omega)); have O4 := Lib.hid (MapF.made w4); have M4' := Lib.hid (M4.out.kept ((Kept.refl Nix w4).alloc (.map #[] 0)) (fun h => h)); have N4' := Lib.hid (N4.out.kept ((Kept.refl Nix w4).alloc (.map #[] 0)) (fun h => h)); have K4' : Hid (Kept Nix w (w4.alloc (.map #[] 0))) := K4.out.alloc _; have H4 : Hid (w2.heap.size < w4.heap.size) := N4.out.lt; clear m_ k_)
    | (refine wpList_ins rfl _ _ _ rfl rfl O4.out (by decide) ⟨#[42]⟩ rfl (by decide) 11 rfl (by decide) ?_; intro w5 m_ k_; have O5 := Lib.hid m_; have M5 := Lib.hid (M4'.out.kept k_ (by have := H2.out; have := H4.out; omega)); have N5 := Lib.hid (N4'.out.kept k_ (by have := H4.out; omega)); have K5 : Hid (Kept Nix w w5) := K4'.out.step k_ (fun y hy => .inr (by have := H2.out; have := H4.out; omega)); clear m_ k_)
    | (refine wpList_ins rfl _ _ _ rfl rfl O5.out (by decide) ⟨#[47]⟩ rfl (by decide) 12 rfl (by decide) ?_; intro w6 m_ k_; have O6 := Lib.hid m_; have M6 := Lib.hid (M5.out.kept k_ (by have := H2.out; have := H4.out; omega)); have N6 := Lib.hid (N5.out.kept k_ (by have := H4.out; omega)); have K6 : Hid (Kept Nix w w6) := K5.out.step k_ (fun y hy => .inr (by have := H2.out; have := H4.out; omega)); clear m_ k_)
    | (refine wpList_ins rfl _ _ _ rfl rfl O6.out (by decide) ⟨#[37]⟩ rfl (by decide) 13 rfl (by decide) ?_; intro w7 m_ k_; have O7 := Lib.hid m_; have M7 := Lib.hid (M6.out.kept k_ (by have := H2.out; have := H4.out; omega)); have N7 := Lib.hid (N6.out.kept k_ (by have := H4.out; omega)); have K7 : Hid (Kept Nix w w7) := K6.out.step k_ (fun y hy => .inr (by have := H2.out; have := H4.out; omega)); clear m_ k_))
  go_ret
  have k8 : Kept Nix w7 (w7.alloc (.cells #[.map (some w.heap.size), .map (some w2.heap.size), .map (some w4.heap.size)] 149)) := (Kept.refl _ _).alloc _
  have M8 := M7.out.kept k8 (fun h => h)
  have N8 := N7.out.kept k8 (fun h => h)
  have O8 := O7.out.kept k8 (fun h => h)
  rw [opM1] at M8
  rw [opM2] at N8
  rw [opM3] at O8
  have h2 := H2.out; have h4 := H4.out
  exact ⟨w7.heap.size, rfl, ⟨K7.out.size, _, _, _, _, _, _, Nat.le_refl _, by omega, by omega, heap_alloc_new w7 _, M8, N8, O8⟩, K7.out.trans k8⟩
end Go.Proofs.YtlnhcgihpclpaaaGreatDoor

namespace Go.Proofs.YtlnhcgihpclpaaaGreatDoor
set_option linter.all false
open Go.RowKit

def FivE (M : Nat) (c0 c1 c2 c3 c4 : Value) (w : World) : Prop := w.heap[M]? = some (.cells #[c0, c1, c2, c3, c4] 44 (0, 0))
theorem FivE.lt {M : Nat} {c0 c1 c2 c3 c4 : Value} {w : World} (h : FivE M c0 c1 c2 c3 c4 w) : M < w.heap.size := (Array.getElem?_eq_some_iff.1 h).1
theorem FivE.kept {M : Nat} {c0 c1 c2 c3 c4 : Value} {w w' : World} {X : Nat → Prop} (h : FivE M c0 c1 c2 c3 c4 w) (hk : Kept X w w') (hx : ¬ X M) : FivE M c0 c1 c2 c3 c4 w' := by
  unfold FivE; rw [hk.block M h.lt hx]; exact h
theorem FivE.cells {M : Nat} {c0 c1 c2 c3 c4 : Value} {w : World} (h : FivE M c0 c1 c2 c3 c4 w) : w.cell? ⟨M, 0, none⟩ = some c0 ∧ w.cell? ⟨M, 1, none⟩ = some c1 ∧ w.cell? ⟨M, 2, none⟩ = some c2 ∧ w.cell? ⟨M, 3, none⟩ = some c3 ∧ w.cell? ⟨M, 4, none⟩ = some c4 ∧ ∀ o, w.frozen? ⟨M, o, none⟩ = false := by
  unfold FivE at h
  refine ⟨?_, ?_, ?_, ?_, ?_, fun o => by simp [World.frozen?, h]⟩ <;> (rw [cell_of_row w M _ _ _ _ h]; rfl)
theorem FivE.set5 {M : Nat} {z0 z1 z2 z3 z4 : Value} {w : World} (h : FivE M z0 z1 z2 z3 z4 w) (c0 c1 c2 c3 c4 : Value) : FivE M c0 c1 c2 c3 c4 (set5 w M c0 c1 c2 c3 c4) := by
  unfold FivE at h ⊢
  unfold Go.Proofs.YtlnhcgihpclpaaaGreatDoor.set5
  rw [row_setCell (row_setCell (row_setCell (row_setCell (row_setCell h _) _) _) _) _]; rfl
theorem ret_lexp (n : Nat) {f : Func} (hres : f.results = #[.cell n 44]) {tmps : Array Value} {M : Nat} (ht : tmps.getD n undef = .pointer (some ⟨M, 0, none⟩)) {c0 c1 c2 c3 c4 : Value} {w2 : World} {Q : Ending → World → Prop} (h : FivE M c0 c1 c2 c3 c4 w2)
    (hq : Q (.returned (.agg #[c0, c1, c2, c3, c4])) w2) : bodyPost Tryz.prog f Q .ret ⟨tmps, []⟩ w2 := by
  obtain ⟨h0, h1, h2, h3, h4, _⟩ := h.cells
  have ht' : tmps[n]?.getD undef = .pointer (some ⟨M, 0, none⟩) := by rw [← ht, Array.getD_eq_getD_getElem?]
  exact bodyPost_ret (v := .agg #[c0, c1, c2, c3, c4]) (by simp [results, hres, go_sem, ht', h0, h1, h2, h3, h4]) rfl hq
/-- What a function that reads a piece of an expression answers. -/
def XQ (N T en d : Nat) (r : TRes PatT) (w : World) (e : Ending) (w' : World) : Prop :=
  Kept (· = N) w w' ∧ match r with
    | .ok (p, l) => (∃ v, e = .returned v ∧ patVal w.heap.size p w' v) ∧ PsR N T en l d w'
    | .error er => ThrewL er e
theorem XQ.ok {N T en d : Nat} {r : TRes PatT} {w : World} {e : Ending} {w' : World} {p : PatT} {l : List LTok} (h : XQ N T en d r w e w') (hr : r = .ok (p, l)) :
    Kept (· = N) w w' ∧ PsR N T en l d w' ∧ ∃ S ka cap, e = .returned (.agg #[.int .i64 p.kind, .string p.text, .int .i64 p.n, .string p.name, .slice ka p.kids.length cap]) ∧ (∀ b, S b → w.heap.size ≤ b ∧ b < w'.heap.size) ∧ (p.text.size < 1000000000 ∧ p.name.size < 1000000000 ∧ p.kids.length < 1000000000) ∧ PatsAt w' S ka p.kids := by
  subst hr
  obtain ⟨k, ⟨v, rfl, S, hS, ka, cap, rfl, hz, hk⟩, hp⟩ := h
  exact ⟨k, hp, S, ka, cap, rfl, hS, hz, hk⟩
theorem XQ.bad {N T en d : Nat} {r : TRes PatT} {w : World} {e : Ending} {w' : World} {er : Er} (h : XQ N T en d r w e w') (hr : r = .error er) : Kept (· = N) w w' ∧ ThrewL er e := by
  subst hr; exact h
def UnOk (N T en d : Nat) (f : List LTok → TRes PatT) : Prop := ∀ (l : List LTok) (w : World), PsR N T en l d w → Calls Tryz.prog 98 #[.pointer (some ⟨N, 0, none⟩)] w (XQ N T en d (f l) w)
def PrOk (N T en d : Nat) (f : List LTok → TRes PatT) : Prop := ∀ (l : List LTok) (w : World), PsR N T en l d w → Calls Tryz.prog 103 #[.pointer (some ⟨N, 0, none⟩)] w (XQ N T en d (f l) w)
def ExOk (N T en d : Nat) (f : List LTok → TRes PatT) : Prop := ∀ (l : List LTok) (w : World), PsR N T en l d w → Calls Tryz.prog 69 #[.pointer (some ⟨N, 0, none⟩)] w (XQ N T en d (f l) w)
theorem Psr.setDeep {N T en n c d : Nat} {a : Option Addr} {l : List LTok} {w : World} (h : Psr N T en n a c l d w) (k : Nat) : Psr N T en n a c l k (w.setCell ⟨N, 2, none⟩ (.int .i64 k)) := by
  have hk : Kept (· = N) w (w.setCell ⟨N, 2, none⟩ (.int .i64 k)) := (Kept.refl (· = N) w).setCell (p := ⟨N, 2, none⟩) (.inl rfl) _
  exact ⟨by rw [row_setCell h.blk]; rfl, h.num, h.cap, fun hl => by obtain ⟨o, e, hc⟩ := h.toks hl; exact ⟨o, e, fun j u hu => (hk.cell h.lt (fun e => h.ne e.symm)).trans (hc j u hu)⟩, h.ne, Nat.lt_of_lt_of_le h.lt hk.size, h.small, h.good, h.old, by obtain ⟨ev, h1, h2⟩ := h.rng; exact ⟨ev, (hk.cell (Nat.lt_trans h.old h.ltN) (Nat.ne_of_lt h.old)).trans h1, h2⟩⟩
theorem PsR.setDeep {N T en d : Nat} {l : List LTok} {w : World} (h : PsR N T en l d w) (k : Nat) : PsR N T en l k (w.setCell ⟨N, 2, none⟩ (.int .i64 k)) := by
  obtain ⟨n, a, c, h⟩ := h; exact ⟨n, a, c, h.setDeep k⟩
theorem PsR.deep {N T en d : Nat} {l : List LTok} {w : World} (h : PsR N T en l d w) : w.cell? ⟨N, 2, none⟩ = some (.int .i64 d) ∧ w.frozen? ⟨N, 2, none⟩ = false := by
  obtain ⟨n, a, c, h⟩ := h; exact ⟨h.c0.2.2.1, h.c0.2.2.2 2⟩
end Go.Proofs.YtlnhcgihpclpaaaGreatDoor

namespace Go.Proofs.YtlnhcgihpclpaaaGreatDoor
set_option linter.all false
open Go.RowKit

theorem pat1E {g : Nat} {q : PatT} {ka : Option Addr} {cap : Nat} {w : World} {S : Nat → Prop} (F : FivE g (.int .i64 q.kind) (.string q.text) (.int .i64 q.n) (.string q.name) (.slice ka q.kids.length cap) w) (hz : q.text.size < 1000000000 ∧ q.name.size < 1000000000 ∧ q.kids.length < 1000000000) (hk : PatsAt w S ka q.kids) (hS : ∀ b, S b → b < w.heap.size) :
    PatsAt w (fun b => S b ∨ b = g) (some ⟨g, 0, none⟩) [q] := by
  obtain ⟨c0, c1, c2, c3, c4, _⟩ := F.cells
  obtain ⟨k, t, n, nm, kids⟩ := q
  have hk' : PatsAt w (fun b => S b ∨ b = g) ka kids := PatsAt.to hk (Kept.refl Nix w) (fun b hb => ⟨hS b hb, fun h => h⟩) (fun _ h => .inl h)
  have hp : PatAt w (fun b => S b ∨ b = g) g 0 (.mk k t n nm kids) := by
    unfold PatAt
    exact ⟨.inr rfl, hz, c0, c1, c2, c3, ka, cap, c4, hk'⟩
  unfold PatsAt
  exact ⟨g, 0, rfl, hp, by unfold PatsAt; trivial⟩
set_option maxRecDepth 100000 in
set_option maxHeartbeats 4000000 in
theorem lun_plain {N T en d : Nat} {un pr : List LTok → TRes PatT} (HP : PrOk N T en d pr) {l : List LTok} {w : World} (h : PsR N T en l d w) (hs : signT (bs [45]) l = false) : Calls Tryz.prog 98 #[.pointer (some ⟨N, 0, none⟩)] w (XQ N T en d (unT un pr l) w) := by
  obtain ⟨hN, hT, hne, h7⟩ := h.ltN
  obtain ⟨w0, hw0⟩ : ∃ w0, w0 = w.alloc (.cells #[.int .i64 0, .string ⟨#[]⟩, .int .i64 0, .string ⟨#[]⟩, .slice none 0 0] 44) := ⟨_, rfl⟩
  have k0 : Kept Nix w w0 := by rw [hw0]; exact (Kept.refl _ _).alloc _
  obtain ⟨M2, hM2⟩ : ∃ M, M = w.heap.size := ⟨_, rfl⟩
  have Z0 : Hid (FivE M2 (.int .i64 0) (.string ⟨#[]⟩) (.int .i64 0) (.string ⟨#[]⟩) (.slice none 0 0) w0) := by rw [hw0, hM2]; exact heap_alloc_new w _
  have HI := Lib.hid (lis_any (bs [45]) (h.kept k0 (fun h => h) (fun h => h)))
  unfold IsLQ at HI
  rw [hs] at HI
  have er : unT un pr l = pr l := by unfold unT; rw [hs]; rfl
  rw [er]
  have K0 := Lib.hid k0; have HW0 := Lib.hid hw0; have HM2 := Lib.hid hM2; have HPR := Lib.hid HP
  clear k0 hw0 hM2 HP h hs er
  cases hp : pr l with
  | error er =>
    go_enter Tryz.func98, Tryz.ntmps98
    go_upto_region 1 with fail
    rw [← HW0.out, ← HM2.out]
    go_wp2_with (first
      | (go_at_call 46; (refine HI.out.mono ?_); rintro e w1 ⟨rfl, r1_, k1_⟩; have R1 := Lib.hid r1_; have K1 := Lib.hid k1_; clear r1_ k1_)
      | (go_at_call 103; (refine (HPR.out l w1 R1.out).mono ?_); intro e w2 h2_; obtain ⟨k2_, rfl⟩ := h2_.bad hp; have K2 := Lib.hid k2_; clear k2_ h2_))
    exact ⟨rfl, ((K0.out.more (fun _ h => h.elim)).trans K1.out).trans K2.out, rfl⟩
  | ok x =>
    obtain ⟨p, r⟩ := x
    go_enter Tryz.func98, Tryz.ntmps98
    go_upto_region 1 with fail
    rw [← HW0.out, ← HM2.out]
    go_wp2_with (first
      | (go_at_call 46; (refine HI.out.mono ?_); rintro e w1 ⟨rfl, r1_, k1_⟩; have R1 := Lib.hid r1_; have K1 := Lib.hid k1_; have Z1 := Lib.hid (Z0.out.kept k1_ (by have := HM2.out; omega)); clear r1_ k1_)
      | (go_at_call 103; (refine (HPR.out l w1 R1.out).mono ?_); intro e w2 h2_; obtain ⟨k2_, r2_, S, ka, cap, rfl, hS_, hz_, hk_⟩ := h2_.ok hp; have K2 := Lib.hid k2_; have R2 := Lib.hid r2_; have HS := Lib.hid hS_; have HZ := Lib.hid hz_; have HK := Lib.hid hk_; have Z2 := Lib.hid (Z1.out.kept k2_ (by have := HM2.out; omega)); obtain ⟨z0, z1, z2, z3, z4, zf⟩ := Z2.out.cells; have zf0 := zf 0; have zf1 := zf 1; have zf2 := zf 2; have zf3 := zf 3; have zf4 := zf 4; clear zf k2_ r2_ hS_ hz_ hk_ h2_))
    refine ret_lexp 2 rfl rfl (Z2.out.set5 _ _ _ _ _) ?_
    have k6 : Kept (· = M2) w2 (set5 w2 M2 (.int .i64 p.kind) (.string p.text) (.int .i64 p.n) (.string p.name) (.slice ka p.kids.length cap)) := (Kept.refl (· = M2) w2).set5 (.inl rfl) _ _ _ _ _
    have K5 : Kept (· = N) w w2 := ((K0.out.more (fun _ h => h.elim)).trans K1.out).trans K2.out
    have hS : ∀ b, S b → w.heap.size ≤ b ∧ b < w2.heap.size ∧ b ≠ M2 := by
      intro b hb
      obtain ⟨x1, x2⟩ := HS.out b hb
      have := K0.out.size; have := K1.out.size; have := Z1.out.lt; have := HM2.out
      omega
    exact ⟨K5.step k6 (fun y hy => .inr (by have := HM2.out; omega)), ⟨_, rfl, S, fun b hb => ⟨(hS b hb).1, Nat.lt_of_lt_of_le (hS b hb).2.1 k6.size⟩, ka, cap, rfl, HZ.out, HK.out.kept k6 (fun b hb => ⟨(hS b hb).2.1, (hS b hb).2.2⟩)⟩, R2.out.kept k6 (by have := HM2.out; omega) (by have := HM2.out; omega) (by have := HM2.out; omega)⟩
end Go.Proofs.YtlnhcgihpclpaaaGreatDoor
