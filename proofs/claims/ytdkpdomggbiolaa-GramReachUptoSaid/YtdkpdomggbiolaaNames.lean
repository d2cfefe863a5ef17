/- Names of a pattern: contract. -/
import Derived.Test.YtdkpdomggbiolaaSorts
import Derived.Test.YtdkpdomggbiolaaLaw4
import Derived.Deep.RegionWith
namespace Go.Proofs.Ytdkpdomggbiolaa
set_option linter.all false
open Go.RowKit

def namesRun (p : PatT) : List ByteArray × List ByteArray := (walkF (fun s q _ => namesStep s q) ([], []) p 1).1
def givenF (p : PatT) : List ByteArray := compB (sortB (namesRun p).1)
def calledF (p : PatT) : List ByteArray := compB (sortB (namesRun p).2)

/-- v reads as the texts l, in blocks of S. -/
def StrsV (w : World) (S : Nat → Prop) (v : Value) (l : List ByteArray) : Prop :=
  ∃ a cap, v = .slice a l.length cap ∧ (0 < l.length → ∃ b o, a = some ⟨b, o, none⟩ ∧ S b ∧ ∀ i (h : i < l.length), w.cell? ⟨b, o + i, none⟩ = some (.string l[i]))
theorem OwnS.strs {w : World} {B : Nat} {v : Value} {l : List ByteArray} (h : OwnS w B v l) : StrsV w (fun k => B ≤ k ∧ k < w.heap.size) v l := by
  rcases h.2 with ⟨rfl, h0⟩ | ⟨g, cap, cur, rfl, hb, hgg, h1, h2, h3, h4⟩
  · obtain rfl : l = [] := List.eq_nil_of_length_eq_zero h0
    exact ⟨none, 0, rfl, fun h => by simp at h⟩
  · refine ⟨_, cap, rfl, fun _ => ⟨g, 0, rfl, ⟨hb, (Array.getElem?_eq_some_iff.1 hgg).1⟩, fun i hi => ?_⟩⟩
    have := World.ownsRow.cells h (g := g) rfl i (.string l[i]) (by simp [hi])
    have e : (⟨g, 0, none⟩ : Addr).add i = ⟨g, 0 + i, none⟩ := by unfold Addr.add; split <;> simp_all
    rw [e] at this; exact this

theorem StrsV.wide {w : World} {S S' : Nat → Prop} {v : Value} {l : List ByteArray} (h : StrsV w S v l) (hs : ∀ b, S b → S' b) : StrsV w S' v l := by
  obtain ⟨a, cap, rfl, hl⟩ := h
  exact ⟨a, cap, rfl, fun h0 => let ⟨b, o, e, hb, hc⟩ := hl h0; ⟨b, o, e, hs b hb, hc⟩⟩

theorem OwnS.shape {w : World} {B : Nat} {v : Value} {l : List ByteArray} (h : OwnS w B v l) : ∃ a cap, v = .slice a l.length cap := by
  obtain ⟨a, cap, e, _⟩ := h.strs; exact ⟨a, cap, e⟩

theorem OwnS.base {w : World} {B B' : Nat} {v : Value} {l : List ByteArray} (h : OwnS w B v l) (hB : B' ≤ B) : OwnS w B' v l := by
  refine ⟨h.1, ?_⟩
  rcases h.2 with h1 | ⟨g, cap, cur, h0, hb, h2⟩
  · exact .inl h1
  · exact .inr ⟨g, cap, cur, h0, by omega, h2⟩
structure NamesOut (p : PatT) (w : World) (v : Value) (w' : World) : Prop where
  out : ∃ v1 v2, v = .tuple #[v1, v2, .int .i64 0] ∧ StrsV w' (fun k => w.heap.size ≤ k ∧ k < w'.heap.size) v1 (givenF p) ∧ StrsV w' (fun k => w.heap.size ≤ k ∧ k < w'.heap.size) v2 (calledF p) ∧ OwnS w' w.heap.size v2 (calledF p)
def NamesPost (p : PatT) (w : World) (e : Ending) (w' : World) : Prop :=
  Kept Nix w w' ∧ if wrongF p = 0 then ∃ v, e = .returned v ∧ NamesOut p w v w' else e = .returned (.tuple #[.slice none 0 0, .slice none 0 0, .int .i64 (wrongF p)])

theorem Cel.rowne {w : World} {B c : Nat} {v : Value} {l : List ByteArray} (h : OwnS w B v l) (hc : c < B) : v.ownBlock ≠ some c := fun e => by have := (World.ownsRow.lt h c e).1; omega

theorem names_true (p : PatT) : (walkF (fun s q _ => namesStep s q) ([], []) p 1).2 = true := by
  rw [walk_run]
  have : ∀ (l : List PatT) st, (runL namesStep st l).2 = true := by
    intro l; induction l with
    | nil => intro st; rfl
    | cons q qs ih => intro st; rw [runL]; exact ih _
  exact this _ _

set_option maxRecDepth 100000 in
set_option maxHeartbeats 2000000 in
theorem Names_any (p : PatT) (v : Value) (w : World) (hp : PatV w (· < w.heap.size) v p) (hsz : sizeT p ≤ 100000000) :
    Calls Try.prog 11 #[v] w (NamesPost p w) := by
  obtain ⟨c, hv, hb⟩ := hp.box 25 (fun b hb => hb)
  have hp0 := hp
  obtain ⟨ka, cap, rfl, hz, hk⟩ := hp
  simp only [Value.agg.injEq] at hv; subst hv
  have hmf : ∀ (fn : Fn) (first cap : Array Value) (w : World), (Instr.makeFunc fn first cap).run Try.prog w = .ok (.func fn first cap) w := fun _ _ _ _ => rfl
  go_enter Try.func11, Try.ntmps11
  go_wp2_with fail
  refine (Wrong_any p _ _ ⟨ka, cap, rfl, hz, hk.to ((((Kept.refl Nix w).alloc _).alloc _).alloc _) (Safe.lt (Nat.le_refl _)) (fun b hb => by simp at hb ⊢; omega)⟩ hsz).mono ?_
  rintro e w1 ⟨rfl, hk1⟩
  have C1 : Cel w1 (w.heap.size + 1) 26 (.slice none 0 0) := Cel.kept ((Cel.new' (by simp)).alloc _) hk1 (fun h => h)
  have C2 : Cel w1 (w.heap.size + 1 + 1) 26 (.slice none 0 0) := Cel.kept (Cel.new' (by simp)) hk1 (fun h => h)
  have K1 : Kept Nix w w1 := ((((Kept.refl Nix w).alloc _).alloc _).alloc _).quiet hk1
  have hz1 : w.heap.size + 3 ≤ w1.heap.size := by have := hk1.size; simpa using this
  have hb1 := hb.kept (((Kept.refl Nix _).alloc _).alloc _ |>.quiet hk1) (fun b hb => ⟨by simp; omega, fun h => h⟩)
  clear hk hp0 hb hk1
  by_cases he : wrongF p = 0
  · rw [he]
    have q1 := C1.cell; have q2 := C2.cell; have f1 := C1.free; have f2 := C2.free
    have HC1 := Lib.hid C1; have HC2 := Lib.hid C2; have HK1 := Lib.hid K1; have HB1 := Lib.hid hb1; have HE := Lib.hid he
    clear C1 C2 K1 hb1 he
    have Hrun : Hid (namesRun p = (walkF (fun s q _ => namesStep s q) ([], []) p 1).1) := rfl
    go_wp2_with fail
    refine (walk_any 35 #[.pointer (some ⟨w.heap.size + 1, 0, none⟩), .pointer (some ⟨w.heap.size + 1 + 1, 0, none⟩)] (fun _ _ => by kernel_rfl) (NamesI (w.heap.size + 1) (w.heap.size + 1 + 1) (w.heap.size + 3)) (fun n st => st.1.length + n < 1000000000 ∧ st.2.length + n < 1000000000) (fun s q _ => namesStep s q)
      (fun n st q d h _ => by
        constructor
        · show (namesStep st q).1.1.length + n < 1000000000
          rw [namesStep]; dsimp only; split
          · rw [List.length_append]; simp only [List.length_singleton]; omega
          · omega
        · show (namesStep st q).1.2.length + n < 1000000000
          rw [namesStep]; dsimp only; split
          · rw [List.length_append]; simp only [List.length_singleton]; omega
          · omega) (fun k => k = w.heap.size + 1 ∨ k = w.heap.size + 1 + 1 ∨ w.heap.size + 3 ≤ k) (fun b => b < w.heap.size ∨ b = w.heap.size) 500000000 (by omega) ?cl 100000000 p 0 ([], []) w.heap.size 0 1 _ hsz (by omega) ?i ?g ?pt ?sf).mono ?_
    case cl =>
      intro n st q b o d w' hi hg hp' hs hd
      exact names1_any _ _ _ (by omega) (by omega) (by omega) st q b o d _ w' hi hs hp' (by omega) (by omega)
    case i => exact ⟨⟨_, _, HC1.out, HC2.out, OwnS.nil _ _, OwnS.nil _ _, fun g h => by simp [Value.ownBlock] at h⟩, hz1⟩
    case g => simp; omega
    case pt => exact HB1.out
    case sf => intro b hb; omega
    rintro e w2 ⟨rfl, hI2, hk2⟩
    obtain ⟨⟨v1, v2, C1, C2, o1, o2, hdis⟩, hz2⟩ := hI2
    rw [← Hrun.out] at o1 o2
    have hl : (namesRun p).1.length < 1000000000 ∧ (namesRun p).2.length < 1000000000 := by
      have := walkF_G (G := fun n st => st.1.length + n < 1000000000 ∧ st.2.length + n < 1000000000) (f := fun s q _ => namesStep s q) (fun n st q d h _ => by
        constructor
        · show (namesStep st q).1.1.length + n < 1000000000
          rw [namesStep]; dsimp only; split
          · rw [List.length_append]; simp only [List.length_singleton]; omega
          · omega
        · show (namesStep st q).1.2.length + n < 1000000000
          rw [namesStep]; dsimp only; split
          · rw [List.length_append]; simp only [List.length_singleton]; omega
          · omega) p 0 ([], []) 1 (by simp; omega) (names_true p)
      simpa [namesRun] using this
    obtain ⟨hl1, hl2⟩ := hl
    have K2 : Hid (Kept Nix w w2) := HK1.out.step hk2 (by intro y hy; omega)
    have r1 := Cel.rowne o1 (c := w.heap.size + 1) (by omega)
    have r1' := Cel.rowne o1 (c := w.heap.size + 1 + 1) (by omega)
    have r2 := Cel.rowne o2 (c := w.heap.size + 1) (by omega)
    have r2' := Cel.rowne o2 (c := w.heap.size + 1 + 1) (by omega)
    have hdis' : ∀ x, v2.ownBlock = some x → v1.ownBlock ≠ some x := fun x hx hy => hdis x hy hx
    have low1 : ∀ k, v1.ownBlock = some k → Nix k ∨ w.heap.size ≤ k := fun k hk => .inr (by have := (World.ownsRow.lt o1 k hk).1; omega)
    have low2 : ∀ k, v2.ownBlock = some k → Nix k ∨ w.heap.size ≤ k := fun k hk => .inr (by have := (World.ownsRow.lt o2 k hk).1; omega)
    have HL1 := Lib.hid hl1; have HL2 := Lib.hid hl2; have HD := Lib.hid hdis; have HD' := Lib.hid hdis'
    have LOW1 := Lib.hid low1; have LOW2 := Lib.hid low2; have R1 := Lib.hid r1; have R1' := Lib.hid r1'; have R2 := Lib.hid r2; have R2' := Lib.hid r2'
    have HE1 := HE; have q1 := C1.cell
    clear hk2 HC1 HC2 HK1 HB1 hz1 hl1 hl2 hdis hdis' low1 low2 r1 r1' r2 r2'
    go_wp2_with fail
    refine (sortS_any _ v1 _ w2 o1 HL1.out).mono ?_
    rintro e w3 ⟨rfl, s1, g3⟩
    have K3 : Hid (Kept Nix w w3) := K2.out.grown g3 LOW1.out
    have C1a := C1.grown g3 R1.out; have C2a := C2.grown g3 R1'.out; have o2a := o2.grown g3 HD'.out
    clear q1 g3 C1 C2 o1 o2
    have q2 := C2a.cell
    go_wp2_with fail
    refine (sortS_any _ v2 _ w3 o2a HL2.out).mono ?_
    rintro e w4 ⟨rfl, s2, g4⟩
    have K4 : Hid (Kept Nix w w4) := K3.out.grown g4 LOW2.out
    have C1b := C1a.grown g4 R2.out; have C2b := C2a.grown g4 R2'.out; have s1a := s1.grown g4 HD.out
    clear q2 g4 C1a C2a o2a s1
    have q1 := C1b.cell; have q2 := C2b.cell; have f1 := C1b.free; have f2 := C2b.free
    have s1d : OwnS w4.drew (w.heap.size + 3) v1 (sortB (namesRun p).1) := s1a
    have s2d : OwnS w4.drew (w.heap.size + 3) v2 (sortB (namesRun p).2) := s2
    go_wp2_with fail
    have L1 : Hid ((sortB (namesRun p).1).length < 1000000000) := by rw [sortB_length]; exact HL1.out
    have L2 : Hid ((sortB (namesRun p).2).length < 1000000000) := by rw [sortB_length]; exact HL2.out
    have fin : Hid (∀ (w6 : World) (u1 u2 : Value), Kept Nix w w6 → OwnS w6 (w.heap.size + 3) u1 (givenF p) → OwnS w6 (w.heap.size + 3) u2 (calledF p) → u1.ownBlock = v1.ownBlock → u2.ownBlock = v2.ownBlock →
        NamesPost p w (.returned (.tuple #[u1, u2, .int .i64 0])) ((w6.setCell ⟨w.heap.size + 1, 0, none⟩ u1).setCell ⟨w.heap.size + 1 + 1, 0, none⟩ u2)) := by
      intro w6 u1 u2 k6 p1 p2 b1 b2
      refine ⟨(k6.setCell (.inr (by simp)) _).setCell (.inr (by simp; omega)) _, ?_⟩
      rw [if_pos HE.out]
      have K : Kept (fun k => k < w.heap.size + 3) w6 ((w6.setCell ⟨w.heap.size + 1, 0, none⟩ u1).setCell ⟨w.heap.size + 1 + 1, 0, none⟩ u2) := ((Kept.refl _ w6).setCell (.inl (by simp)) _).setCell (.inl (by simp)) _
      have m1 := (p1.kept K (fun k hk => by have := (World.ownsRow.lt p1 k hk).1; omega)).strs
      have m2 := (p2.kept K (fun k hk => by have := (World.ownsRow.lt p2 k hk).1; omega)).strs
      exact ⟨_, rfl, ⟨u1, u2, rfl, m1.wide (fun b h => ⟨by omega, h.2⟩), m2.wide (fun b h => ⟨by omega, h.2⟩), (p2.kept K (fun k hk => by have := (World.ownsRow.lt p2 k hk).1; omega)).base (by omega)⟩⟩
    clear s1a s2
    have K4d : Hid (Kept Nix w w4.drew) := K4.out.drew
    have C1d : Cel w4.drew (w.heap.size + 1) 26 v1 := C1b
    have C2d : Cel w4.drew (w.heap.size + 1 + 1) 26 v2 := C2b
    clear C1b C2b
    go_region_with (first
      | (go_at_call_of 36 v1; refine (compS_any _ v1 _ w4.drew s1d L1.out).mono ?_; rintro e w5 ⟨u1, rfl, p1, b1, g5⟩; obtain ⟨a1, d1, rfl⟩ := p1.shape; have K5 : Hid (Kept Nix w w5) := K4d.out.grown g5 LOW1.out; have B1 := Lib.hid b1; have s2n := s2d.grown g5 HD'.out; have C1n := C1d.grown g5 R1.out; have C2n := C2d.grown g5 R1'.out; have qn1 := C1n.cell; have qn2 := C2n.cell; have fn1 := C1n.free; have fn2 := C2n.free; clear g5 b1)
      | (go_at_call_of 36 v2; refine (compS_any _ v2 _ w4.drew s2d L2.out).mono ?_; rintro e w5 ⟨u2, rfl, p2, b2, g5⟩; obtain ⟨a2, d2, rfl⟩ := p2.shape; have K5 : Hid (Kept Nix w w5) := K4d.out.grown g5 LOW2.out; have B2 := Lib.hid b2; have s1n := s1d.grown g5 HD.out; have C1n := C1d.grown g5 R2.out; have C2n := C2d.grown g5 R2'.out; have qn1 := C1n.cell; have qn2 := C2n.cell; have fn1 := C1n.free; have fn2 := C2n.free; clear g5 b2)
      | (go_at_call_of 36 v2; refine (compS_any _ v2 _ w5 s2n L2.out).mono ?_; rintro e w6 ⟨u2, rfl, p2, b2, g6⟩; obtain ⟨a2, d2, rfl⟩ := p2.shape; have K6 : Hid (Kept Nix w w6) := K5.out.grown g6 LOW2.out; have B2 := Lib.hid b2; have p1n := p1.grown g6 (by rw [B1.out]; exact HD.out); have C1m := C1n.grown g6 R2.out; have C2m := C2n.grown g6 R2'.out; have qm1 := C1m.cell; have qm2 := C2m.cell; have fm1 := C1m.free; have fm2 := C2m.free; have FIN := Lib.hid (fin.out w6 _ _ K6.out p1n p2 B1.out B2.out); clear g6 b2)
      | (go_at_call_of 36 v1; refine (compS_any _ v1 _ w5 s1n L1.out).mono ?_; rintro e w6 ⟨u1, rfl, p1, b1, g6⟩; obtain ⟨a1, d1, rfl⟩ := p1.shape; have K6 : Hid (Kept Nix w w6) := K5.out.grown g6 LOW1.out; have B1 := Lib.hid b1; have p2n := p2.grown g6 (by rw [B2.out]; exact HD'.out); have C1m := C1n.grown g6 R1.out; have C2m := C2n.grown g6 R1'.out; have qm1 := C1m.cell; have qm2 := C2m.cell; have fm1 := C1m.free; have fm2 := C2m.free; have FIN := Lib.hid (fin.out w6 _ _ K6.out p1 p2n B1.out B2.out); clear g6 b1))
    all_goals
      have hne : (w.heap.size + 1 + 1 = w.heap.size + 1) = False := by simp
      go_wp2_with fail
      exact bodyPost_ret (v := .tuple #[.slice a1 _ d1, .slice a2 _ d2, .int .i64 0]) (by simp [results, Try.results11, go_sem, qm1, qm2]) rfl FIN.out
  · have hne : (wrongF p == 0) = false := by simpa using he
    have q1 := C1.cell; have q2 := C2.cell; have f1 := C1.free; have f2 := C2.free
    have P : Hid (NamesPost p w (.returned (.tuple #[.slice none 0 0, .slice none 0 0, .int .i64 (wrongF p)])) ((w1.setCell ⟨w.heap.size + 1, 0, none⟩ (.slice none 0 0)).setCell ⟨w.heap.size + 1 + 1, 0, none⟩ (.slice none 0 0))) :=
      ⟨(K1.setCell (.inr (by simp)) _).setCell (.inr (by simp; omega)) _, by rw [if_neg he]⟩
    clear C1 C2 K1 hb1 he
    go_wp2_with fail
    exact bodyPost_ret (v := .tuple #[.slice none 0 0, .slice none 0 0, .int .i64 (wrongF p)]) (by simp [results, Try.results11, go_sem, q1, q2]) rfl P.out
end Go.Proofs.Ytdkpdomggbiolaa
