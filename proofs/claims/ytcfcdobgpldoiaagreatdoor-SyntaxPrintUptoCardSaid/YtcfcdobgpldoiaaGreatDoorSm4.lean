/- Numbers by words of 32 bits: trim, words, twin, give. Numbers by words of 32 bits: what is made, told and set. Numbers by words of 32 bits: divided by ten. Numbers by words of 32 bits: quotient and rest by ten. The document's Base: a number's digits. -/
import Derived.Test.YtcfcdobgpldoiaaGreatDoorBase
import Derived.Deep.AppendLies
import Derived.Deep.RegionWith
import Derived.BigQuiet
import Derived.Laws.Bits64b
import Derived.Test.YtcfcdobgpldoiaaGreatDoorQuote
import Derived.Deep.LoopGhost
namespace Go.Proofs.YtcfcdobgpldoiaaGreatDoor
set_option linter.all false
open Go.RowKit

/-- A slice of words that is the number u. -/
def WV (w : World) (S : Nat → Prop) (v : Value) (u : Nat) : Prop :=
  (u = 0 ∧ ∃ a c, v = .slice a 0 c) ∨
  (0 < u ∧ u < 4294967296 ∧ ∃ b c, v = .slice (some ⟨b, 0, none⟩) 1 c ∧ S b ∧ w.cell? ⟨b, 0, none⟩ = some (.int .u32 u)) ∨
  (4294967296 ≤ u ∧ u < 18446744073709551616 ∧ ∃ b c, v = .slice (some ⟨b, 0, none⟩) 2 c ∧ S b ∧ w.cell? ⟨b, 0, none⟩ = some (.int .u32 ((u % 4294967296 : Nat) : Int)) ∧ w.cell? ⟨b, 1, none⟩ = some (.int .u32 ((u / 4294967296 : Nat) : Int)))
theorem WV.to {w w' : World} {S S' X : Nat → Prop} {v : Value} {u : Nat} (h : WV w S v u) (hk : Kept X w w') (hs : Safe S X w.heap.size) (h' : ∀ b, S b → S' b) : WV w' S' v u := by
  rcases h with h | ⟨h1, h2, b, c, e, hb, h3⟩ | ⟨h1, h2, b, c, e, hb, h3, h4⟩
  · exact .inl h
  · exact .inr (.inl ⟨h1, h2, b, c, e, h' b hb, (hk.cell (hs b hb).1 (hs b hb).2).trans h3⟩)
  · exact .inr (.inr ⟨h1, h2, b, c, e, h' b hb, (hk.cell (hs b hb).1 (hs b hb).2).trans h3, (hk.cell (hs b hb).1 (hs b hb).2).trans h4⟩)
set_option maxRecDepth 100000 in
theorem trim_two (b : Nat) (lo hi : Int) (w : World) (h0 : w.cell? ⟨b, 0, none⟩ = some (.int .u32 lo)) (h1 : w.cell? ⟨b, 1, none⟩ = some (.int .u32 hi)) (hh : hi ≠ 0) :
    Calls Tryz.prog 95 #[.slice (some ⟨b, 0, none⟩) 2 2] w fun e w' => e = .returned (.slice (some ⟨b, 0, none⟩) 2 2) ∧ w' = w := by
  have z : (hi == 0) = false := by simpa using hh
  go_enter Tryz.func95, Tryz.ntmps95
  go_wp2_with fail
  refine wp_loop_rounds 1 ?_
  rw [rounds_succ]
  go_wp2_with fail
  go_ret
  exact ⟨rfl, rfl⟩
set_option maxRecDepth 100000 in
theorem trim_one (b : Nat) (lo : Int) (w : World) (h0 : w.cell? ⟨b, 0, none⟩ = some (.int .u32 lo)) (h1 : w.cell? ⟨b, 1, none⟩ = some (.int .u32 0)) (hh : lo ≠ 0) :
    Calls Tryz.prog 95 #[.slice (some ⟨b, 0, none⟩) 2 2] w fun e w' => e = .returned (.slice (some ⟨b, 0, none⟩) 1 2) ∧ w' = w := by
  have z : (lo == 0) = false := by simpa using hh
  go_enter Tryz.func95, Tryz.ntmps95
  go_wp2_with fail
  refine wp_loop_rounds 2 ?_
  rw [rounds_succ]
  go_wp2_with fail
  (try simp only [Exit.inBlock, Exit.then])
  rw [rounds_succ]
  go_wp2_with fail
  go_ret
  exact ⟨rfl, rfl⟩
set_option maxRecDepth 100000 in
theorem trim_zero (b : Nat) (w : World) (h0 : w.cell? ⟨b, 0, none⟩ = some (.int .u32 0)) (h1 : w.cell? ⟨b, 1, none⟩ = some (.int .u32 0)) :
    Calls Tryz.prog 95 #[.slice (some ⟨b, 0, none⟩) 2 2] w fun e w' => e = .returned (.slice (some ⟨b, 0, none⟩) 0 2) ∧ w' = w := by
  go_enter Tryz.func95, Tryz.ntmps95
  go_wp2_with fail
  refine wp_loop_rounds 3 ?_
  rw [rounds_succ]
  go_wp2_with fail
  (try simp only [Exit.inBlock, Exit.then])
  rw [rounds_succ]
  go_wp2_with fail
  (try simp only [Exit.inBlock, Exit.then])
  rw [rounds_succ]
  go_wp2_with fail
  go_ret
  exact ⟨rfl, rfl⟩
def WordsQ (u : Nat) (w : World) (e : Ending) (w' : World) : Prop := ∃ v, e = .returned v ∧ WV w' (fun b => w.heap.size ≤ b ∧ b < w'.heap.size) v u ∧ Kept Nix w w'
set_option maxRecDepth 100000 in
theorem words_any (u : Nat) (hu : u < 18446744073709551616) (w : World) : Calls Tryz.prog 93 #[.int .u64 u] w (WordsQ u w) := by
  obtain ⟨w1, hw1⟩ : ∃ w1, w1 = w.alloc (.cells #[.int .u32 ((u : Int) % 4294967296), .int .u32 ((u : Int) / 4294967296)] 126) := ⟨_, rfl⟩
  have k1 : Kept Nix w w1 := by rw [hw1]; exact (Kept.refl _ _).alloc _
  have hs1 : w1.heap.size = w.heap.size + 1 := by rw [hw1]; simp
  have hb : w1.heap[w.heap.size]? = some (.cells #[.int .u32 ((u : Int) % 4294967296), .int .u32 ((u : Int) / 4294967296)] 126 (0, 0)) := by rw [hw1]; exact heap_alloc_new w _
  have c0 : w1.cell? ⟨w.heap.size, 0, none⟩ = some (.int .u32 ((u : Int) % 4294967296)) := by rw [cell_of_row _ _ _ _ _ _ hb]; rfl
  have c1 : w1.cell? ⟨w.heap.size, 1, none⟩ = some (.int .u32 ((u : Int) / 4294967296)) := by rw [cell_of_row _ _ _ _ _ _ hb]; rfl
  have key : ∃ v, Hid (Calls Tryz.prog 95 #[.slice (some ⟨w.heap.size, 0, none⟩) 2 2] w1 fun e w' => e = .returned v ∧ w' = w1) ∧ Hid (WV w1 (fun b => w.heap.size ≤ b ∧ b < w1.heap.size) v u) := by
    by_cases h0 : u = 0
    · subst h0
      exact ⟨_, trim_zero _ _ c0 c1, .inl ⟨rfl, _, _, rfl⟩⟩
    by_cases hl : u < 4294967296
    · rw [show (u : Int) / 4294967296 = 0 by omega] at c1
      rw [show (u : Int) % 4294967296 = u by omega] at c0
      exact ⟨_, trim_one _ u _ c0 c1 (by omega), .inr (.inl ⟨by omega, hl, _, _, rfl, ⟨Nat.le_refl _, by omega⟩, c0⟩)⟩
    · rw [show (u : Int) / 4294967296 = ((u / 4294967296 : Nat) : Int) by omega] at c1
      rw [show (u : Int) % 4294967296 = ((u % 4294967296 : Nat) : Int) by omega] at c0
      exact ⟨_, trim_two _ _ _ _ c0 c1 (by omega), .inr (.inr ⟨by omega, hu, _, _, rfl, ⟨Nat.le_refl _, by omega⟩, c0, c1⟩)⟩
  obtain ⟨v, hc, hv⟩ := key
  have K1 := Lib.hid k1; have HW1 := Lib.hid hw1
  clear hw1 hb c0 c1 k1 hs1
  go_enter Tryz.func93, Tryz.ntmps93
  go_wp2_with (go_at_call 95; go_loud (rw [← HW1.out]; (refine hc.out.mono ?_); rintro e w' ⟨rfl, hw_⟩; obtain rfl := hw_.symm))
  go_ret
  exact ⟨v, rfl, hv.out, K1.out⟩
/-- The number u (not below 0) lies at block N. -/
def IntAt (w : World) (N : Nat) (S : Nat → Prop) (u : Nat) : Prop := ∃ v, w.heap[N]? = some (.cells #[.bool false, v] 103 (0, 0)) ∧ WV w S v u
theorem append_none {t ty e : TypeId} {i : TypeInfo} (ht : Tryz.prog.underlying t = some (.slice e)) (hi : Tryz.prog.info? e = some i) (a : Option Addr) (c : Nat) (w : World) :
    (Builtin.append_ #[t, t] ty #[.slice none 0 0, .slice a 0 c]).run Tryz.prog w = .ok (.slice none 0 0) w := by
  cases a <;> simp [Builtin.append_, run_underlying ht, sizeOf, typeInfo, hi, Builtin.lenOf, Builtin.firstCells, loadCells, loadCellsFrom]
end Go.Proofs.YtcfcdobgpldoiaaGreatDoor

namespace Go.Proofs.YtcfcdobgpldoiaaGreatDoor
set_option linter.all false
open Go.RowKit

theorem infoU32 : (Tryz.prog.info? 126).map (fun i => (i.zero, i.size, i.bytes)) = some (some (.int .u32 0), 1, 4) := by kernel_rfl
theorem wpList_append_zero {w : World} {ops : Array Oper} {rest : List Oper} {o : Oper} {a : Act} {Q : Exit → Act → World → Prop} (hgd : o.guard = none) (s x : Operand) (t : TypeId)
    (ho : o.op = .call { callee := .builtin .append, args := #[s, x], argTypes := #[t, t] }) (e : TypeId) (i : TypeInfo) (ht : Tryz.prog.underlying t = some (.slice e)) (hi : Tryz.prog.info? e = some i)
    (ad : Option Addr) (c : Nat) (hs : a.eval s = .slice none 0 0) (hx : a.eval x = .slice ad 0 c) (h : wpList Tryz.prog ops Q rest (a.put o.dst (.slice none 0 0)) w) : wpList Tryz.prog ops Q (o :: rest) a w := by
  refine wpList_plain hgd fun K hK => ?_
  have hrun := append_none (ty := o.type) ht hi ad c w
  unfold Oper.wp
  simp [execOp, ho, resolve, invoke, builtin, hs, hx, hrun, Result.andThen]
  exact hK _ _ h
theorem WV.shape {w : World} {S : Nat → Prop} {v : Value} {u : Nat} (h : WV w S v u) : ∃ a n c, v = .slice a n c := by
  rcases h with ⟨_, a, c, e⟩ | ⟨_, _, b, c, e, _⟩ | ⟨_, _, b, c, e, _⟩ <;> exact ⟨_, _, _, e⟩
theorem row_cell {w : World} {base g n cap : Nat} {xs : List Value} (h : w.ownsRow base 126 1 (.slice (some ⟨g, 0, none⟩) n cap) n xs) (j : Nat) (x : Value) (hx : xs[j]? = some x) : w.cell? ⟨g, j, none⟩ = some x := by
  have := World.ownsRow.cells h (g := g) rfl j x hx
  have e : (⟨g, 0, none⟩ : Addr).add j = ⟨g, j, none⟩ := by unfold Addr.add; split <;> simp_all
  rw [e] at this; exact this
set_option maxRecDepth 100000 in
theorem twin_any (v : Value) (u : Nat) (w : World) (h : WV w (· < w.heap.size) v u) : Calls Tryz.prog 80 #[v] w (WordsQ u w) := by
  obtain ⟨i0, hi0, hz0, hz1, hz2⟩ := info_parts infoU32
  rcases h with ⟨rfl, a, c, rfl⟩ | ⟨h1, h2, b, c, rfl, hb, h3⟩ | ⟨h1, h2, b, c, rfl, hb, h3, h4⟩
  · go_enter Tryz.func80, Tryz.ntmps80
    go_wp2_with (at_builtin; refine wpList_append_zero rfl _ _ _ rfl 126 i0 Tryz.underlying101 hi0 a c rfl rfl ?_)
    go_ret
    exact ⟨_, rfl, .inl ⟨rfl, _, _, rfl⟩, Kept.refl _ _⟩
  · have H3 := Lib.hid h3
    go_enter Tryz.func80, Tryz.ntmps80
    go_wp2_with (at_builtin; go_loud (refine wpList_append_lies _ rfl _ _ 101 rfl w.heap.size 126 i0 (.int .u32 0) 1 4 Tryz.underlying101 hi0 hz0 hz1 hz2 rfl (by decide) (.slice none 0 0) 0 [] rfl (World.ownsRow_nil _ _ _ _) ⟨b, 0, none⟩ 1 c [.int .u32 u] rfl rfl (by intro j x hj; match j, hj with | 0, hj => simp at hj; subst hj; exact H3.out) (by intro x hx; simp at hx; subst hx; rfl) (by decide) (by decide) (by decide) (Nat.le_refl _) w.heap.size rfl ?_); intro g cap w' hown hg hlie hlt; have OWN := Lib.hid hown; have KG : Hid (Kept Nix w w') := (Kept.refl Nix w).grown hg (fun k hk => by cases hk); have HG : Hid (w.heap.size ≤ g ∧ g < w'.heap.size) := (by rcases hlie with e | e; cases e; exact ⟨by omega, hlt⟩); clear hown hg hlie hlt)
    go_ret
    exact ⟨_, rfl, .inr (.inl ⟨h1, h2, _, _, rfl, HG.out, row_cell OWN.out 0 _ rfl⟩), KG.out⟩
  · have H3 := Lib.hid h3; have H4 := Lib.hid h4
    go_enter Tryz.func80, Tryz.ntmps80
    go_wp2_with (at_builtin; go_loud (refine wpList_append_lies _ rfl _ _ 101 rfl w.heap.size 126 i0 (.int .u32 0) 1 4 Tryz.underlying101 hi0 hz0 hz1 hz2 rfl (by decide) (.slice none 0 0) 0 [] rfl (World.ownsRow_nil _ _ _ _) ⟨b, 0, none⟩ 2 c [.int .u32 ((u % 4294967296 : Nat) : Int), .int .u32 ((u / 4294967296 : Nat) : Int)] rfl rfl (by intro j x hj; match j, hj with | 0, hj => simp at hj; subst hj; exact H3.out | 1, hj => simp at hj; subst hj; exact H4.out) (by intro x hx; simp at hx; rcases hx with rfl | rfl <;> rfl) (by decide) (by decide) (by decide) (Nat.le_refl _) w.heap.size rfl ?_); intro g cap w' hown hg hlie hlt; have OWN := Lib.hid hown; have KG : Hid (Kept Nix w w') := (Kept.refl Nix w).grown hg (fun k hk => by cases hk); have HG : Hid (w.heap.size ≤ g ∧ g < w'.heap.size) := (by rcases hlie with e | e; cases e; exact ⟨by omega, hlt⟩); clear hown hg hlie hlt)
    go_ret
    exact ⟨_, rfl, .inr (.inr ⟨h1, h2, _, _, rfl, HG.out, row_cell OWN.out 0 _ rfl, row_cell OWN.out 1 _ rfl⟩), KG.out⟩
/-- A number's block, whatever it holds. -/
def BigB (w : World) (N : Nat) : Prop := ∃ x y, w.heap[N]? = some (.cells #[.bool x, y] 103 (0, 0))
def BigAt (w : World) (N u : Nat) : Prop := ∃ v, w.heap[N]? = some (.cells #[.bool false, v] 103 (0, 0)) ∧ WV w (· < w.heap.size) v u
theorem BigAt.blk {w : World} {N u : Nat} (h : BigAt w N u) : BigB w N := by obtain ⟨v, h, _⟩ := h; exact ⟨_, _, h⟩
theorem BigB.lt {w : World} {N : Nat} (h : BigB w N) : N < w.heap.size := by obtain ⟨x, y, h⟩ := h; exact (Array.getElem?_eq_some_iff.1 h).1
theorem BigB.kept {w w' : World} {N : Nat} {X : Nat → Prop} (h : BigB w N) (hk : Kept X w w') (hx : ¬ X N) : BigB w' N := by
  have hlt := h.lt
  obtain ⟨x, y, h⟩ := h
  exact ⟨x, y, (hk.block N hlt hx).trans h⟩
theorem WV.set {w w' : World} {v : Value} {u : Nat} {X : Nat → Prop} (h : WV w (· < w.heap.size) v u) (hk : Kept X w w') (hX : ∀ M, X M → BigB w M) : WV w' (· < w'.heap.size) v u := by
  have key : ∀ b z, w.cell? ⟨b, 0, none⟩ = some (.int .u32 z) → ¬ X b := by
    intro b z hc hx
    obtain ⟨x, y, hM⟩ := hX b hx
    rw [cell_of_row _ _ _ _ _ _ hM] at hc
    simp at hc
  rcases h with h | ⟨h1, h2, b, c, e, hb, h3⟩ | ⟨h1, h2, b, c, e, hb, h3, h4⟩
  · exact .inl h
  · exact .inr (.inl ⟨h1, h2, b, c, e, Nat.lt_of_lt_of_le hb hk.size, (hk.cell hb (key b _ h3)).trans h3⟩)
  · exact .inr (.inr ⟨h1, h2, b, c, e, Nat.lt_of_lt_of_le hb hk.size, (hk.cell hb (key b _ h3)).trans h3, (hk.cell hb (key b _ h3)).trans h4⟩)
theorem BigAt.set {w w' : World} {N u : Nat} {X : Nat → Prop} (h : BigAt w N u) (hk : Kept X w w') (hX : ∀ M, X M → BigB w M) (hn : ¬ X N) : BigAt w' N u := by
  have hlt := h.blk.lt
  obtain ⟨v, h1, h2⟩ := h
  exact ⟨v, (hk.block N hlt hn).trans h1, h2.set hk hX⟩
theorem BigAt.quiet {w w' : World} {N u : Nat} (h : BigAt w N u) (hk : Kept Nix w w') : BigAt w' N u := h.set hk (fun _ h => h.elim) (fun h => h)
def GiveQ (N : Nat) (v : Value) (w : World) (e : Ending) (w' : World) : Prop := e = .returned (.pointer (some ⟨N, 0, none⟩)) ∧ w'.heap[N]? = some (.cells #[.bool false, v] 103 (0, 0)) ∧ Kept (· = N) w w'
set_option maxRecDepth 100000 in
theorem give_any (N : Nat) (a : Option Addr) (n c : Nat) (w : World) (hb : BigB w N) : Calls Tryz.prog 79 #[.pointer (some ⟨N, 0, none⟩), .bool false, .slice a n c] w (GiveQ N (.slice a n c) w) := by
  obtain ⟨x, y, hb⟩ := hb
  have c0 : w.cell? ⟨N, 0, none⟩ = some (.bool x) := by rw [cell_of_row _ _ _ _ _ _ hb]; rfl
  have c1 : w.cell? ⟨N, 1, none⟩ = some y := by rw [cell_of_row _ _ _ _ _ _ hb]; rfl
  have f0 : w.frozen? ⟨N, 0, none⟩ = false := by simp [World.frozen?, hb]
  have f1 : w.frozen? ⟨N, 1, none⟩ = false := by simp [World.frozen?, hb]
  have s1 := heap_setCell_same w N 1 _ _ (.slice a n c) hb
  have s2 := heap_setCell_same (w.setCell ⟨N, 1, none⟩ (.slice a n c)) N 0 _ _ (.bool false) s1
  have FIN : Hid (GiveQ N (.slice a n c) w (.returned (.pointer (some ⟨N, 0, none⟩))) ((w.setCell ⟨N, 1, none⟩ (.slice a n c)).setCell ⟨N, 0, none⟩ (.bool false))) :=
    ⟨rfl, by rw [s2]; rfl, ((Kept.refl (· = N) w).setCell (p := ⟨N, 1, none⟩) (.inl rfl) _).setCell (p := ⟨N, 0, none⟩) (.inl rfl) _⟩
  have g0 : (w.setCell ⟨N, 1, none⟩ (.slice a n c)).cell? ⟨N, 0, none⟩ = some (.bool x) := by rw [cell_of_row _ _ _ _ _ _ s1]; rfl
  have gf : (w.setCell ⟨N, 1, none⟩ (.slice a n c)).frozen? ⟨N, 0, none⟩ = false := by simp [World.frozen?, s1]
  clear hb s1 s2
  go_enter Tryz.func79, Tryz.ntmps79
  go_wp2_with fail
  go_ret
  exact FIN.out
def SetQ (N u : Nat) (w : World) (e : Ending) (w' : World) : Prop := e = .returned (.pointer (some ⟨N, 0, none⟩)) ∧ BigAt w' N u ∧ Kept (· = N) w w'
set_option maxRecDepth 100000 in
theorem setInt_any (N u : Nat) (hu : u < 9223372036854775808) (w : World) (hb : BigB w N) : Calls Tryz.prog 90 #[.pointer (some ⟨N, 0, none⟩), .int .i64 u] w (SetQ N u w) := by
  have HB := Lib.hid hb
  clear hb
  have e0 : decide ((u : Int) < 0) = false := by simp
  have hw := words_any u (by omega)
  have HWQ := Lib.hid hw
  clear hw
  go_enter Tryz.func90, Tryz.ntmps90
  go_wp2_with (first
    | (go_at_call 93; go_loud (refine (HWQ.out w).mono ?_); rintro e w1 ⟨v, rfl, hv, k1⟩; obtain ⟨a, n, c, rfl⟩ := hv.shape; have V1 := Lib.hid hv; have K1 := Lib.hid k1; clear hv k1)
    | (go_at_call 79; (refine (give_any N a n c w1 (HB.out.kept K1.out (fun h => h))).mono ?_); rintro e w2 ⟨rfl, hb2, k2⟩; have B2 := Lib.hid hb2; have K2 := Lib.hid k2; clear hb2 k2))
  go_ret
  have hB1 := HB.out.kept K1.out (fun h => h)
  exact ⟨rfl, ⟨_, B2.out, (V1.out.to (Kept.refl Nix w1) (fun b hb => ⟨hb.2, fun h => h⟩) (fun b hb => hb.2)).set K2.out (fun M hM => by rw [hM]; exact hB1)⟩, (K1.out.more (fun _ h => h.elim)).trans K2.out⟩
def NewQ (u : Nat) (w : World) (e : Ending) (w' : World) : Prop := e = .returned (.pointer (some ⟨w.heap.size, 0, none⟩)) ∧ BigAt w' w.heap.size u ∧ Kept Nix w w'
set_option maxRecDepth 100000 in
theorem newInt_any (u : Nat) (hu : u < 9223372036854775808) (w : World) : Calls Tryz.prog 78 #[.int .i64 u] w (NewQ u w) := by
  obtain ⟨w1, hw1⟩ : ∃ w1, w1 = w.alloc (.cells #[.bool false, .slice none 0 0] 103) := ⟨_, rfl⟩
  have HB : Hid (BigB w1 w.heap.size) := by rw [hw1]; exact ⟨_, _, heap_alloc_new w _⟩
  have K1 : Hid (Kept Nix w w1) := by rw [hw1]; exact (Kept.refl _ _).alloc _
  have HW1 := Lib.hid hw1
  clear hw1
  go_enter Tryz.func78, Tryz.ntmps78
  go_wp2_with (go_at_call 90; rw [← HW1.out]; (refine (setInt_any w.heap.size u hu w1 HB.out).mono ?_); rintro e w2 ⟨rfl, b2, k2⟩; have B2 := Lib.hid b2; have K2 := Lib.hid k2; clear b2 k2)
  go_ret
  exact ⟨rfl, B2.out, K1.out.step K2.out (fun y hy => .inr (by have h : y = w.heap.size := hy; omega))⟩
set_option maxRecDepth 100000 in
theorem big_any (u : Nat) (hu : u < 9223372036854775808) (w : World) : Calls Tryz.prog 64 #[.int .i64 u] w (NewQ u w) := by
  go_enter Tryz.func64, Tryz.ntmps64
  go_wp2_with (go_at_call 78; (refine (newInt_any u hu w).mono ?_); rintro e w2 ⟨rfl, b2, k2⟩; have B2 := Lib.hid b2; have K2 := Lib.hid k2; clear b2 k2)
  go_ret
  exact ⟨rfl, B2.out, K2.out⟩
set_option maxRecDepth 100000 in
theorem sign_any (N u : Nat) (w : World) (h : BigAt w N u) : Calls Tryz.prog 65 #[.pointer (some ⟨N, 0, none⟩)] w fun e w' => e = .returned (.int .i64 (if u = 0 then 0 else 1)) ∧ w' = w := by
  obtain ⟨v, hb, hv⟩ := h
  have c0 : w.cell? ⟨N, 0, none⟩ = some (.bool false) := by rw [cell_of_row _ _ _ _ _ _ hb]; rfl
  have c1 : w.cell? ⟨N, 1, none⟩ = some v := by rw [cell_of_row _ _ _ _ _ _ hb]; rfl
  rcases hv with ⟨rfl, a, c, rfl⟩ | ⟨h1, h2, b, c, rfl, -⟩ | ⟨h1, h2, b, c, rfl, -⟩
  · rw [if_pos rfl]
    clear hb
    go_enter Tryz.func65, Tryz.ntmps65
    go_wp2_with fail
    go_ret
    exact ⟨rfl, rfl⟩
  · rw [if_neg (by omega)]
    clear hb h1 h2
    go_enter Tryz.func65, Tryz.ntmps65
    go_wp2_with fail
    go_ret
    exact ⟨rfl, rfl⟩
  · rw [if_neg (by omega)]
    clear hb h1 h2
    go_enter Tryz.func65, Tryz.ntmps65
    go_wp2_with fail
    go_ret
    exact ⟨rfl, rfl⟩
set_option maxRecDepth 100000 in
theorem abs_any (N u : Nat) (w : World) (h : BigAt w N u) : Calls Tryz.prog 66 #[.pointer (some ⟨N, 0, none⟩), .pointer (some ⟨N, 0, none⟩)] w (SetQ N u w) := by
  have HB := Lib.hid h.blk
  obtain ⟨v, hb, hv⟩ := h
  have c1 : w.cell? ⟨N, 1, none⟩ = some v := by rw [cell_of_row _ _ _ _ _ _ hb]; rfl
  obtain ⟨a0, n0, cc0, rfl⟩ := hv.shape
  have HT := Lib.hid (twin_any _ u w hv)
  clear hb hv
  go_enter Tryz.func66, Tryz.ntmps66
  go_wp2_with (first
    | (go_at_call 80; (refine HT.out.mono ?_); rintro e w1 ⟨v, rfl, hv, k1⟩; obtain ⟨a, n, c, rfl⟩ := hv.shape; have V1 := Lib.hid hv; have K1 := Lib.hid k1; clear hv k1)
    | (go_at_call 79; (refine (give_any N a n c w1 (HB.out.kept K1.out (fun h => h))).mono ?_); rintro e w2 ⟨rfl, hb2, k2⟩; have B2 := Lib.hid hb2; have K2 := Lib.hid k2; clear hb2 k2))
  go_ret
  have hB1 := HB.out.kept K1.out (fun h => h)
  exact ⟨rfl, ⟨_, B2.out, (V1.out.to (Kept.refl Nix w1) (fun b hb => ⟨hb.2, fun h => h⟩) (fun b hb => hb.2)).set K2.out (fun M hM => by rw [hM]; exact hB1)⟩, (K1.out.more (fun _ h => h.elim)).trans K2.out⟩
end Go.Proofs.YtcfcdobgpldoiaaGreatDoor

namespace Go.Proofs.YtcfcdobgpldoiaaGreatDoor
set_option linter.all false
open Go.RowKit

theorem or_shift (lo hi : Nat) (hl : lo < 4294967296) : lo ||| hi * 4294967296 = lo + hi * 4294967296 := by
  have h := Nat.shiftLeft_add_eq_or_of_lt (b := lo) (i := 32) (by omega) hi
  rw [Nat.shiftLeft_eq] at h
  rw [Nat.or_comm, show (4294967296 : Nat) = 2 ^ 32 from rfl, ← h]; omega
theorem bits_or (u : Nat) (hu : u < 18446744073709551616) : bits BinOp.or IntKind.u64 ((u : Int) % 4294967296) ((u : Int) / 4294967296 * 4294967296) = u := by
  have h1 := bits_or_u64_nat (u % 4294967296) (u / 4294967296 * 4294967296) (by omega) (by omega)
  rw [or_shift _ _ (by omega)] at h1
  have e1 : ((u % 4294967296 : Nat) : Int) = (u : Int) % 4294967296 := by omega
  have e2 : ((u / 4294967296 * 4294967296 : Nat) : Int) = (u : Int) / 4294967296 * 4294967296 := by omega
  rw [e1, e2] at h1
  rw [h1]; omega
def U64Q (u : Nat) (w : World) (e : Ending) (w' : World) : Prop := e = .returned (.int .u64 (u : Int)) ∧ w' = w
set_option maxRecDepth 100000 in
theorem plain_any (v : Value) (u : Nat) (S : Nat → Prop) (w : World) (h : WV w S v u) : Calls Tryz.prog 92 #[v] w (U64Q u w) := by
  rcases h with ⟨rfl, a, c, rfl⟩ | ⟨h1, h2, b, c, rfl, -, h3⟩ | ⟨h1, h2, b, c, rfl, -, h3, h4⟩
  · go_enter Tryz.func92, Tryz.ntmps92
    go_wp2_with fail
    go_ret
    exact ⟨rfl, rfl⟩
  · go_enter Tryz.func92, Tryz.ntmps92
    go_wp2_with fail
    go_ret
    exact ⟨rfl, rfl⟩
  · have hb := Lib.hid (bits_or u h2)
    go_enter Tryz.func92, Tryz.ntmps92
    go_wp2_with fail
    go_ret
    exact ⟨congrArg (fun z => Ending.returned (.int .u64 z)) hb.out, rfl⟩
theorem BigAt.parts {w : World} {N u : Nat} (h : BigAt w N u) : ∃ v, w.cell? ⟨N, 0, none⟩ = some (.bool false) ∧ w.cell? ⟨N, 1, none⟩ = some v ∧ WV w (· < w.heap.size) v u := by
  obtain ⟨v, hb, hv⟩ := h
  exact ⟨v, by rw [cell_of_row _ _ _ _ _ _ hb]; rfl, by rw [cell_of_row _ _ _ _ _ _ hb]; rfl, hv⟩
set_option maxRecDepth 100000 in
theorem uint64_any (N u : Nat) (w : World) (h : BigAt w N u) : Calls Tryz.prog 82 #[.pointer (some ⟨N, 0, none⟩)] w (U64Q u w) := by
  obtain ⟨v, c0, c1, hv⟩ := h.parts
  rcases hv with ⟨rfl, a, c, rfl⟩ | ⟨h1, h2, b, c, rfl, -, h3⟩ | ⟨h1, h2, b, c, rfl, -, h3, h4⟩
  · go_enter Tryz.func82, Tryz.ntmps82
    go_wp2_with fail
    go_ret
    exact ⟨rfl, rfl⟩
  · go_enter Tryz.func82, Tryz.ntmps82
    go_wp2_with fail
    go_ret
    exact ⟨rfl, rfl⟩
  · have hb := Lib.hid (bits_or u h2)
    go_enter Tryz.func82, Tryz.ntmps82
    go_wp2_with fail
    go_ret
    exact ⟨congrArg (fun z => Ending.returned (.int .u64 z)) hb.out, rfl⟩
set_option maxRecDepth 100000 in
theorem int64_any (N u : Nat) (hu : u < 9223372036854775808) (w : World) (h : BigAt w N u) : Calls Tryz.prog 68 #[.pointer (some ⟨N, 0, none⟩)] w fun e w' => e = .returned (.int .i64 (u : Int)) ∧ w' = w := by
  obtain ⟨v, c0, c1, -⟩ := h.parts
  have HU := Lib.hid (uint64_any N u w h)
  go_enter Tryz.func68, Tryz.ntmps68
  go_wp2_with (go_at_call 82; (refine HU.out.mono ?_); rintro e w' ⟨rfl, rfl⟩)
  go_ret
  exact ⟨rfl, rfl⟩
/-- A slice of one word, ten. -/
def TenV (w : World) (v : Value) : Prop := ∃ b c, v = .slice (some ⟨b, 0, none⟩) 1 c ∧ w.cell? ⟨b, 0, none⟩ = some (.int .u32 10)
set_option maxRecDepth 100000 in
theorem cmp_any (v t : Value) (u : Nat) (S : Nat → Prop) (w : World) (h : WV w S v u) (ht : TenV w t) : Calls Tryz.prog 91 #[v, t] w fun e w' => (∃ z : Int, e = .returned (.int .i64 z) ∧ (z < 0 ↔ u < 10)) ∧ Kept Nix w w' := by
  obtain ⟨tb, tc, rfl, t0⟩ := ht
  rcases h with ⟨rfl, a, c, rfl⟩ | ⟨h1, h2, b, c, rfl, -, h3⟩ | ⟨h1, h2, b, c, rfl, -, h3, h4⟩
  · go_enter Tryz.func91, Tryz.ntmps91
    go_wp2_with fail
    go_ret
    exact ⟨⟨_, rfl, by decide⟩, Kept.refl _ _⟩
  · by_cases hlt : u < 10
    · have z1 : ((u : Int) != 10) = true := by simp; omega
      have z2 : decide ((u : Int) < 10) = true := decide_eq_true (by omega)
      have z3 : decide (u < 10) = true := decide_eq_true hlt
      have HLT := Lib.hid hlt
      clear hlt h1 h2
      go_enter Tryz.func91, Tryz.ntmps91
      go_wp2_with fail
      refine wp_loop_rounds 1 ?_
      rw [rounds_succ]
      go_wp2_with fail
      go_region
      all_goals
        go_wp2_with fail
        go_region
      all_goals
        go_wp2_with fail
        go_ret
        exact ⟨⟨_, rfl, by have := HLT.out; constructor <;> (intro; first | omega | decide)⟩, by repeat (first | exact Kept.refl _ _ | refine Kept.drew ?_)⟩
    · by_cases he : u = 10
      · subst he
        go_enter Tryz.func91, Tryz.ntmps91
        go_wp2_with fail
        refine wp_loop_rounds 2 ?_
        rw [rounds_succ]
        go_wp2_with fail
        go_region
        all_goals
          go_wp2_with fail
          (try simp only [Exit.inBlock, Exit.then])
          rw [rounds_succ]
          go_wp2_with fail
          go_ret
          exact ⟨⟨_, rfl, by decide⟩, by repeat (first | exact Kept.refl _ _ | refine Kept.drew ?_)⟩
      · have z1 : ((u : Int) != 10) = true := by simp; omega
        have z2 : decide ((u : Int) < 10) = false := decide_eq_false (by omega)
        have z3 : decide (u < 10) = false := decide_eq_false hlt
        have HLT := Lib.hid hlt
        clear hlt h1 h2 he
        go_enter Tryz.func91, Tryz.ntmps91
        go_wp2_with fail
        refine wp_loop_rounds 1 ?_
        rw [rounds_succ]
        go_wp2_with fail
        go_region
        all_goals
          go_wp2_with fail
          go_region
        all_goals
          go_wp2_with fail
          go_ret
          exact ⟨⟨_, rfl, by have := HLT.out; constructor <;> (intro h; first | omega | (exact absurd h (by decide)))⟩, by repeat (first | exact Kept.refl _ _ | refine Kept.drew ?_)⟩
  · have HH := Lib.hid h1
    clear h1 h2
    go_enter Tryz.func91, Tryz.ntmps91
    go_wp2_with fail
    go_ret
    exact ⟨⟨_, rfl, by have := HH.out; constructor <;> (intro h; first | omega | (exact absurd h (by decide)))⟩, Kept.refl _ _⟩
end Go.Proofs.YtcfcdobgpldoiaaGreatDoor

namespace Go.Proofs.YtcfcdobgpldoiaaGreatDoor
set_option linter.all false
open Go.RowKit

theorem WV.ten {w : World} {S : Nat → Prop} {v : Value} (h : WV w S v 10) : TenV w v := by
  rcases h with ⟨h, _⟩ | ⟨_, _, b, c, e, _, h3⟩ | ⟨h, _⟩
  · omega
  · exact ⟨b, c, e, h3⟩
  · omega
theorem WV.shape2 {w : World} {S : Nat → Prop} {v : Value} {u : Nat} (h : WV w S v u) : ∃ a n c, v = .slice a n c ∧ n ≤ 2 := by
  rcases h with ⟨_, a, c, e⟩ | ⟨_, _, b, c, e, _⟩ | ⟨_, _, b, c, e, _⟩ <;> exact ⟨_, _, _, e, by omega⟩
def DivQ (u : Nat) (w : World) (e : Ending) (w' : World) : Prop := ∃ q r, e = .returned (.tuple #[q, r]) ∧ WV w' (· < w'.heap.size) q (u / 10) ∧ WV w' (· < w'.heap.size) r (u % 10) ∧ Kept Nix w w'
set_option maxRecDepth 100000 in
set_option maxHeartbeats 4000000 in
theorem div_any (v t : Value) (u : Nat) (hu : u < 9223372036854775808) (w : World) (h : WV w (· < w.heap.size) v u) (ht : WV w (· < w.heap.size) t 10) : Calls Tryz.prog 81 #[v, t] w (DivQ u w) := by
  obtain ⟨tb, tc, rfl, t0⟩ := ht.ten
  obtain ⟨a, n, c, rfl, hn2⟩ := h.shape2
  have HV : Hid (∀ wy, Kept Nix w wy → WV wy (· < wy.heap.size) (.slice a n c) u) := fun wy hk => h.to hk (fun b hb => ⟨hb, fun h => h⟩) (fun b hb => Nat.lt_of_lt_of_le hb hk.size)
  have HT : Hid (∀ wy, Kept Nix w wy → WV wy (· < wy.heap.size) (.slice (some ⟨tb, 0, none⟩) 1 tc) 10) := fun wy hk => ht.to hk (fun b hb => ⟨hb, fun h => h⟩) (fun b hb => Nat.lt_of_lt_of_le hb hk.size)
  have HC := Lib.hid (cmp_any _ _ u _ w h ht.ten)
  have d2 : decide ((n : Int) ≤ 2) = true := decide_eq_true (by omega)
  have d2' : decide (n ≤ 2) = true := decide_eq_true hn2
  clear h ht t0
  by_cases hlt : u < 10
  · have HLT := Lib.hid hlt
    clear hlt
    go_enter Tryz.func81, Tryz.ntmps81
    go_wp2_with (first
      | (go_at_call 91; (refine HC.out.mono ?_); rintro e w1 ⟨⟨z, rfl, hz⟩, k1⟩; have K1 := Lib.hid k1; have dz : decide (z < 0) = true := decide_eq_true (hz.2 HLT.out); clear k1 hz)
      | (go_at_call 80; (refine (twin_any _ u w1 (HV.out w1 K1.out)).mono ?_); rintro e w2 ⟨v2, rfl, hv2, k2⟩; have V2 := Lib.hid hv2; have K2 := Lib.hid k2; clear hv2 k2))
    go_ret2
    have := HLT.out
    exact ⟨_, _, rfl, .inl ⟨by omega, _, _, rfl⟩, by rw [Nat.mod_eq_of_lt this]; exact V2.out.to (Kept.refl Nix _) (fun b hb => ⟨hb.2, fun h => h⟩) (fun b hb => hb.2), K1.out.trans K2.out⟩
  · have HLT := Lib.hid hlt
    have HQ : Hid (∀ wy, Calls Tryz.prog 93 #[.int .u64 (IntKind.u64.wrap ((u : Int) / 10))] wy (WordsQ (u / 10) wy)) := fun wy => by
      rw [show IntKind.u64.wrap ((u : Int) / 10) = ((u / 10 : Nat) : Int) by rw [IntKind.wrap_u64]; omega]; exact words_any (u / 10) (by omega) wy
    have HR2 : Hid (∀ wy, Calls Tryz.prog 93 #[.int .u64 ((u : Int).tmod 10)] wy (WordsQ (u % 10) wy)) := fun wy => by
      rw [show (u : Int).tmod 10 = ((u % 10 : Nat) : Int) by rw [Int.tmod_eq_emod_of_nonneg (by omega)]; omega]; exact words_any (u % 10) (by omega) wy
    have HR : Hid (∀ wy, Calls Tryz.prog 93 #[.int .u64 ((u : Int) % 10)] wy (WordsQ (u % 10) wy)) := fun wy => by
      rw [show (u : Int) % 10 = ((u % 10 : Nat) : Int) by omega]; exact words_any (u % 10) (by omega) wy
    clear hlt
    go_enter Tryz.func81, Tryz.ntmps81
    go_upto_region 7 with (first
      | (go_at_call 91; (refine HC.out.mono ?_); rintro e w1 ⟨⟨z, rfl, hz⟩, k1⟩; have K1 := Lib.hid k1; have dz : decide (z < 0) = false := decide_eq_false (fun h => HLT.out (hz.1 h)); clear k1 hz)
      | (go_at_call 92; (with_reducible refine (plain_any _ u _ w1 (HV.out w1 K1.out)).mono ?_); rintro e w' ⟨rfl, hw_⟩; obtain rfl := hw_.symm)
      | (go_at_call 92; (with_reducible refine (plain_any _ 10 _ w1 (HT.out w1 K1.out)).mono ?_); rintro e w' ⟨rfl, hw_⟩; obtain rfl := hw_.symm))
    go_region_with (first
      | (go_at_call 93; (with_reducible refine (HQ.out _).mono ?_); rintro e wq ⟨vq, rfl, hq, kq⟩; have VQ := Lib.hid hq; have KQ := Lib.hid kq; clear hq kq)
      | (go_at_call 93; (with_reducible refine (HR.out _).mono ?_); rintro e wr ⟨vr, rfl, hr, kr⟩; have VR := Lib.hid hr; have KR := Lib.hid kr; clear hr kr)
      | (go_at_call 93; (with_reducible refine (HR2.out _).mono ?_); rintro e wr ⟨vr, rfl, hr, kr⟩; have VR := Lib.hid hr; have KR := Lib.hid kr; clear hr kr))
    all_goals
      go_wp2_with fail
      go_ret2
      first
        | (have k := Lib.hid (((Kept.refl Nix w1).drew.trans KQ.out).trans KR.out); exact ⟨_, _, rfl, VQ.out.to KR.out (fun b hb => ⟨hb.2, fun h => h⟩) (fun b hb => Nat.lt_of_lt_of_le hb.2 KR.out.size), VR.out.to (Kept.refl Nix _) (fun b hb => ⟨hb.2, fun h => h⟩) (fun b hb => hb.2), K1.out.trans k.out⟩)
        | (have k := Lib.hid (((Kept.refl Nix w1).drew.trans KR.out).trans KQ.out); exact ⟨_, _, rfl, VQ.out.to (Kept.refl Nix _) (fun b hb => ⟨hb.2, fun h => h⟩) (fun b hb => hb.2), VR.out.to KQ.out (fun b hb => ⟨hb.2, fun h => h⟩) (fun b hb => Nat.lt_of_lt_of_le hb.2 KQ.out.size), K1.out.trans k.out⟩)
def QrQ (X R u : Nat) (w : World) (e : Ending) (w' : World) : Prop := e = .returned (.tuple #[.pointer (some ⟨X, 0, none⟩), .pointer (some ⟨R, 0, none⟩)]) ∧ BigAt w' X (u / 10) ∧ BigAt w' R (u % 10) ∧ Kept (fun b => b = X ∨ b = R) w w'
set_option maxRecDepth 100000 in
set_option maxHeartbeats 4000000 in
theorem quoRem_any (X T R u : Nat) (hu : u < 9223372036854775808) (w : World) (hX : BigAt w X u) (hT : BigAt w T 10) (hR : BigB w R) (hXR : X ≠ R) : Calls Tryz.prog 67 #[.pointer (some ⟨X, 0, none⟩), .pointer (some ⟨X, 0, none⟩), .pointer (some ⟨T, 0, none⟩), .pointer (some ⟨R, 0, none⟩)] w (QrQ X R u w) := by
  have HX := Lib.hid hX.blk; have HR := Lib.hid hR
  obtain ⟨v, x0, x1, hv⟩ := hX.parts
  obtain ⟨t, t0, t1, ht⟩ := hT.parts
  obtain ⟨va, vn, vc, rfl⟩ := hv.shape
  obtain ⟨ta, tn, tc, rfl⟩ := ht.shape
  have KD : ∀ wy : World, Kept Nix w wy → WV wy (· < wy.heap.size) (.slice va vn vc) u ∧ WV wy (· < wy.heap.size) (.slice ta tn tc) 10 := fun wy hk => ⟨hv.to hk (fun b hb => ⟨hb, fun h => h⟩) (fun b hb => Nat.lt_of_lt_of_le hb hk.size), ht.to hk (fun b hb => ⟨hb, fun h => h⟩) (fun b hb => Nat.lt_of_lt_of_le hb hk.size)⟩
  have kdd : Kept Nix w w.drew.drew := (Kept.refl _ _).drew.drew
  have HD : Hid (Calls Tryz.prog 81 #[.slice va vn vc, .slice ta tn tc] w.drew.drew (DivQ u w.drew.drew)) := div_any _ _ u hu _ (KD _ kdd).1 (KD _ kdd).2
  have KDD := Lib.hid kdd
  have hbb : (false != false) = false := rfl
  clear hX hT hR hv ht KD kdd
  go_enter Tryz.func67, Tryz.ntmps67
  go_upto_region 1 with fail
  go_region
  all_goals
    go_upto_region 2 with fail
    go_region_with (go_at_call 81; (refine HD.out.mono ?_); rintro e w1 ⟨q, r, rfl, hq, hr, k1⟩; obtain ⟨qa, qn, qc, rfl⟩ := hq.shape; obtain ⟨ra, rn, rc, rfl⟩ := hr.shape; have VQ := Lib.hid hq; have VR := Lib.hid hr; have K1 : Hid (Kept Nix w w1) := KDD.out.trans k1; clear hq hr k1)
  all_goals
    have HX1 := Lib.hid (HX.out.kept K1.out (fun h => h)); have HR1 := Lib.hid (HR.out.kept K1.out (fun h => h))
    go_wp2_with (first
      | (go_at_call 79; (with_reducible refine (give_any X qa qn qc w1 HX1.out).mono ?_); rintro e w2 ⟨rfl, hb2, k2⟩; have B2 := Lib.hid hb2; have K2 := Lib.hid k2; have HR2 := Lib.hid (HR1.out.kept k2 (fun h => hXR h.symm)); clear hb2 k2)
      | (go_at_call 79; (with_reducible refine (give_any R ra rn rc w2 HR2.out).mono ?_); rintro e w3 ⟨rfl, hb3, k3⟩; have B3 := Lib.hid hb3; have K3 := Lib.hid k3; clear hb3 k3))
    go_ret2
    have V2 := VQ.out.set K2.out (fun M hM => by rw [hM]; exact HX1.out)
    have X2 : BigAt w2 X (u / 10) := ⟨_, B2.out, V2⟩
    have X3 := X2.set K3.out (fun M hM => by rw [hM]; exact HR2.out) hXR
    have R2 := VR.out.set K2.out (fun M hM => by rw [hM]; exact HX1.out)
    have R3 := R2.set K3.out (fun M hM => by rw [hM]; exact HR2.out)
    exact ⟨rfl, X3, ⟨_, B3.out, R3⟩, ((K1.out.more (fun _ h => h.elim)).trans (K2.out.more (fun _ h => .inl h))).trans (K3.out.more (fun _ h => .inr h))⟩
end Go.Proofs.YtcfcdobgpldoiaaGreatDoor

namespace Go.Proofs.YtcfcdobgpldoiaaGreatDoor
set_option linter.all false
open Go.RowKit

def sgn (u : Nat) : Int := if u = 0 then 0 else 1
theorem sgn_any (N u : Nat) (w : World) (h : BigAt w N u) : Calls Tryz.prog 65 #[.pointer (some ⟨N, 0, none⟩)] w fun e w' => e = .returned (.int .i64 (sgn u)) ∧ w' = w := sign_any N u w h
def DigI (u v : Nat) (s : List UInt8) : Prop := (s = [] ∧ v = u) ∨ (s ≠ [] ∧ Lib.decDigits u = (if v = 0 then [] else Lib.decDigits v) ++ s)
theorem dec_last (u : Nat) : Lib.decDigits u = (if u / 10 = 0 then [] else Lib.decDigits (u / 10)) ++ [UInt8.ofNat (48 + u % 10)] := by
  by_cases h : u < 10
  · rw [Lib.decDigits, dif_pos h, if_pos (by omega), Nat.mod_eq_of_lt h]; rfl
  · conv => lhs; rw [Lib.decDigits]
    rw [dif_neg h, if_neg (by omega)]
theorem DigI.step {u v : Nat} {s : List UInt8} (h : DigI u v s) (hc : 0 < v ∨ s = []) : DigI u (v / 10) (UInt8.ofNat (48 + v % 10) :: s) := by
  refine .inr ⟨by simp, ?_⟩
  rcases h with ⟨rfl, rfl⟩ | ⟨h1, h2⟩
  · exact dec_last v
  · have hv : 0 < v := hc.resolve_right h1
    rw [h2, if_neg (by omega)]
    conv => lhs; rw [dec_last v]
    rw [List.append_assoc]; rfl
theorem DigI.len {u v : Nat} {s : List UInt8} (h : DigI u v s) (hu : u < 9223372036854775808) : s.length ≤ 20 := by
  rcases h with ⟨rfl, _⟩ | ⟨_, h2⟩
  · simp
  · have := dec_len 19 u (by omega)
    have h3 := congrArg List.length h2
    rw [List.length_append] at h3; omega
theorem enc_dig (i : Nat) (h : i < 10) (h2 : i < (⟨#[48, 49, 50, 51, 52, 53, 54, 55, 56, 57, 97, 98, 99, 100, 101, 102, 103, 104, 105, 106, 107, 108, 109, 110, 111, 112, 113, 114, 115, 116, 117, 118, 119, 120, 121, 122]⟩ : ByteArray).size) : Utf8.encode ((((⟨#[48, 49, 50, 51, 52, 53, 54, 55, 56, 57, 97, 98, 99, 100, 101, 102, 103, 104, 105, 106, 107, 108, 109, 110, 111, 112, 113, 114, 115, 116, 117, 118, 119, 120, 121, 122]⟩ : ByteArray)[i]'h2).toNat : Nat) : Int) = ⟨#[UInt8.ofNat (48 + i)]⟩ := by
  rcases (show i = 0 ∨ i = 1 ∨ i = 2 ∨ i = 3 ∨ i = 4 ∨ i = 5 ∨ i = 6 ∨ i = 7 ∨ i = 8 ∨ i = 9 by omega) with rfl | rfl | rfl | rfl | rfl | rfl | rfl | rfl | rfl | rfl <;> kernel_rfl
def BaseQ (u : Nat) (w : World) (e : Ending) (w' : World) : Prop := e = .returned (.tuple #[.string ⟨(Lib.decDigits u).toArray⟩, .int .i64 0]) ∧ Kept Nix w w'
theorem empty_str {s : List UInt8} {sb : ByteArray} (h : sb = ⟨s.toArray⟩) : sb.toList.isEmpty = s.isEmpty := by
  rw [h, ByteArray.toList_eq]
set_option maxRecDepth 100000 in
set_option maxHeartbeats 8000000 in
theorem base_any (u : Nat) (hu : u < 9223372036854775808) (w : World) : Calls Tryz.prog 48 #[.int .i64 u, .int .i64 10] w (BaseQ u w) := by
  have e0 : ∀ v, decide (sgn v < 0) = false := fun v => decide_eq_false (by unfold sgn; split <;> decide)
  have E0 := Lib.hid (e0 u)
  clear e0
  have e1 := E0.out
  go_enter Tryz.func48, Tryz.ntmps48
  go_upto_region 7 with (first
    | (go_at_call 64; (refine (big_any u hu w).mono ?_); rintro e w1 ⟨rfl, b1, k1⟩; have B1 := Lib.hid b1; have K1 := Lib.hid k1; clear b1 k1)
    | (go_at_call 65; (refine (sgn_any _ u w1 B1.out).mono ?_); rintro e w' ⟨rfl, hw_⟩; obtain rfl := hw_.symm)
    | (go_at_call 66; (refine (abs_any _ u w1 B1.out).mono ?_); rintro e w2 ⟨rfl, b2, k2⟩; have B2 := Lib.hid b2; have K2 : Hid (Kept Nix w w2) := K1.out.step k2 (fun y hy => .inr (by have h : y = w.heap.size := hy; omega)); clear b2 k2))
  obtain ⟨X, hX⟩ : ∃ x, x = w.heap.size := ⟨_, rfl⟩
  rw [← hX] at B2 ⊢
  have HX : Hid (w.heap.size ≤ X) := by rw [hX]; exact Nat.le_refl _
  clear hX B1 K1 e1
  go_loopg [8] (u + 1) (fun f sv wr => ∃ (v : Nat) (s : List UInt8) (sb : ByteArray), sv = .string sb ∧ Hid (sb = ⟨s.toArray⟩) ∧ Hid (BigAt wr X v) ∧ v ≤ u ∧ Hid (DigI u v s) ∧ Hid (f = v + (if s = [] then 1 else 0)) ∧ Kept Nix w wr)
  case atStart => exact ⟨u, [], ⟨#[]⟩, rfl, rfl, B2, Nat.le_refl _, .inl ⟨rfl, rfl⟩, rfl, K2.out⟩
  case round =>
    clear B2 K2
    obtain ⟨v, s, sb, rfl, hsb, hB, hv, hD, hf, hk⟩ := hrel
    have KR := Lib.hid hk
    have hsl := hD.out.len hu
    have hss : sb.size ≤ 20 := by rw [hsb.out]; show s.toArray.size ≤ 20; simpa using hsl
    have hem := empty_str hsb.out
    clear hk
    by_cases hc : 0 < v ∨ s = []
    rotate_left
    · have h0 : v = 0 := by omega
      have hs : s ≠ [] := fun h => hc (.inr h)
      have fin : Hid (Lib.decDigits u = s) := by
        rcases hD.out with ⟨h, _⟩ | ⟨_, h⟩
        · exact absurd h hs
        · unfold Hid; rw [h, if_pos h0]; rfl
      have d1 : decide (0 < sgn v) = false := decide_eq_false (by unfold sgn; rw [if_pos h0]; decide)
      have d2 : sb.toList.isEmpty = false := by rw [hem]; cases s with | nil => exact absurd rfl hs | cons x r => rfl
      clear hc h0 hs hem hD hf
      go_wp2_with (go_at_call 65; (refine (sgn_any X v wr hB.out).mono ?_); rintro e w' ⟨rfl, hw_⟩; obtain rfl := hw_.symm)
      go_ret2
      exact ⟨by rw [fin.out, ← hsb.out]; rfl, KR.out⟩
    · have hD2 := Lib.hid (hD.out.step hc)
      have hmeas : Hid (v / 10 + 0 < gk) := by
        have h1 := hf.out
        unfold Hid
        by_cases hs : s = []
        · rw [if_pos hs] at h1; omega
        · rw [if_neg hs] at h1; have := hc.resolve_right hs; omega
      obtain ⟨w2, hw2⟩ : ∃ w2, w2 = wr.alloc (.cells #[.bool false, .slice none 0 0] 103) := ⟨_, rfl⟩
      have HR2 : Hid (BigB w2 wr.heap.size) := by rw [hw2]; exact ⟨_, _, heap_alloc_new wr _⟩
      have K2 : Hid (Kept Nix wr w2) := by rw [hw2]; exact (Kept.refl _ _).alloc _
      have hXR : X ≠ wr.heap.size := by have := hB.out.blk.lt; omega
      have HW2 := Lib.hid hw2
      clear hw2
      obtain ⟨R, hR⟩ : ∃ x, x = wr.heap.size := ⟨_, rfl⟩
      have HRR := Lib.hid hR
      have hcnd : (0 < v ∧ decide (0 < sgn v) = true) ∨ (decide (0 < sgn v) = false ∧ sb.toList.isEmpty = true) := by
        by_cases h0 : v = 0
        · exact .inr ⟨decide_eq_false (by unfold sgn; rw [if_pos h0]; decide), by rw [hem, hc.resolve_left (by omega)]; rfl⟩
        · exact .inl ⟨by omega, decide_eq_true (by unfold sgn; rw [if_neg h0]; decide)⟩
      clear hc hem hD hf hR
      obtain ⟨d, hd⟩ : ∃ d, d = v % 10 := ⟨_, rfl⟩
      have hd10 : d < 10 := by omega
      have HDD := Lib.hid hd
      have HXR := Lib.hid hXR
      clear hd hXR
      rcases hcnd with ⟨_, d1⟩ | ⟨d1, d2⟩
      all_goals
        go_upto_region 9 with (go_at_call 65; (refine (sgn_any X v wr hB.out).mono ?_); rintro e w' ⟨rfl, hw_⟩; obtain rfl := hw_.symm)
        rw [← HW2.out]
        clear HW2
        rw [← HRR.out] at HR2 HXR ⊢
        have K02 := Lib.hid (KR.out.trans K2.out)
        have HRO : Hid (w.heap.size ≤ R) := by rw [HRR.out]; exact KR.out.size
        have HX2 := Lib.hid (hB.out.quiet K2.out)
        clear hB
        go_upto_region 10 with (first
          | (go_at_call 64; (refine (big_any 10 (by decide) w2).mono ?_); rintro e w3 ⟨rfl, b3, k3⟩; have B3 := Lib.hid b3; have K3 := Lib.hid k3; clear b3 k3)
          | (go_at_call 67; (refine (quoRem_any X w2.heap.size R v (by omega) w3 (HX2.out.quiet K3.out) B3.out (HR2.out.kept K3.out (fun h => h)) HXR.out).mono ?_); rintro e w4 ⟨rfl, x4, r4, k4⟩; have X4 := Lib.hid x4; have R4 := Lib.hid r4; have K4 : Hid (Kept Nix w w4) := (K02.out.trans K3.out).step k4 (fun y hy => .inr (by have h1 := HX.out; have h2 := HRO.out; rcases hy with rfl | rfl <;> omega)); clear x4 r4 k4))
        rw [← HDD.out] at R4 hD2
        have HDX := Lib.hid hD2.out
        clear HDD HR2 HX2 K2
        rcases (show d = 0 ∨ d = 1 ∨ d = 2 ∨ d = 3 ∨ d = 4 ∨ d = 5 ∨ d = 6 ∨ d = 7 ∨ d = 8 ∨ d = 9 by omega) with rfl | rfl | rfl | rfl | rfl | rfl | rfl | rfl | rfl | rfl
        all_goals
          clear hd10
          have hen := enc_dig
          go_wp2_with (go_at_call 68; (refine (int64_any R _ (by decide) w4 R4.out).mono ?_); rintro e w' ⟨rfl, hw_⟩; obtain rfl := hw_.symm)
          go_roundg (v / 10 + 0)
          case measure => exact hmeas.out
          case rel => exact ⟨v / 10, _, _, rfl, by unfold Hid; rw [hsb.out]; exact app_str _ _, X4, by omega, hD2, by rw [if_neg (by simp)]; rfl, K4.out⟩
end Go.Proofs.YtcfcdobgpldoiaaGreatDoor
