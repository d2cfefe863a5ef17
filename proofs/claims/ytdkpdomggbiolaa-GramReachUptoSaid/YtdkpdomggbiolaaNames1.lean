/- What the closure of Names does with a node: its name goes behind those that are given, or called. -/
import Derived.Test.YtdkpdomggbiolaaWalk
import Derived.Deep.AppendLies
import Derived.Deep.RegionLaw
namespace Go.Proofs.Ytdkpdomggbiolaa
set_option linter.all false
open Go.RowKit

theorem Try.infoS : (Try.prog.info? 9).map (fun i => (i.zero, i.size, i.bytes)) = some (some (.string ⟨#[]⟩), 1, 16) := by kernel_rfl

/-- v is a slice of texts of the call's own, from block B on. -/
def OwnS (w : World) (B : Nat) (v : Value) (l : List ByteArray) : Prop := w.ownsRow B 9 1 v l.length (l.map Value.string)
theorem OwnS.nil (w : World) (B : Nat) : OwnS w B (.slice none 0 0) [] := World.ownsRow_nil w B _ _
theorem OwnS.kept {w w' : World} {B : Nat} {v : Value} {l : List ByteArray} (h : OwnS w B v l) {X : Nat → Prop} (hk : Kept X w w') (hx : ∀ k, v.ownBlock = some k → ¬ X k) : OwnS w' B v l := by
  refine ⟨h.1, ?_⟩
  rcases h.2 with hn | ⟨g, cap, cur, rfl, hb, hgg, rest⟩
  · exact .inl hn
  · exact .inr ⟨g, cap, cur, rfl, hb, by rw [hk.block g (Array.getElem?_eq_some_iff.1 hgg).1 (hx g rfl)]; exact hgg, rest⟩

theorem OwnS.grown {w w' : World} {B : Nat} {v : Value} {l : List ByteArray} (h : OwnS w B v l) {row : Option Nat} (hg : w.grownBy w' row) (hx : ∀ k, v.ownBlock = some k → row ≠ some k) : OwnS w' B v l :=
  World.ownsRow.kept h hg (by cases hv : v.ownBlock with | none => exact .inl rfl | some k => exact .inr fun e => hx k hv e.symm)

def namesStep (st : List ByteArray × List ByteArray) (p : PatT) : (List ByteArray × List ByteArray) × Bool :=
  ((if p.kind = 21 ∨ p.kind = 22 ∨ p.kind = 23 then st.1 ++ [p.name] else st.1, if p.kind = 24 then st.2 ++ [p.name] else st.2), true)
structure NamesI (c1 c2 B : Nat) (st : List ByteArray × List ByteArray) (w : World) : Prop where
  own : ∃ v1 v2, Cel w c1 26 v1 ∧ Cel w c2 26 v2 ∧ OwnS w B v1 st.1 ∧ OwnS w B v2 st.2 ∧ ∀ g, v1.ownBlock = some g → v2.ownBlock ≠ some g
  size : B ≤ w.heap.size

/-- Behind an append of one more to the list at c1 (c2: the other one). -/
theorem names1_fin {c1 c2 B : Nat} (hne : c1 ≠ c2) (hB1 : c1 < B) (hB2 : c2 < B) {v1 v2 : Value} {g c : List ByteArray} {nm : ByteArray} {w wb w2 : World} {g' cap' : Nat}
    (h1 : Cel w c1 26 v1) (h2 : Cel w c2 26 v2) (o1 : OwnS w B v1 g) (o2 : OwnS w B v2 c) (hdis : ∀ g, v1.ownBlock = some g → v2.ownBlock ≠ some g) (hBw : B ≤ w.heap.size)
    (hw : Kept Nix w wb) (hwz : wb.heap.size = w.heap.size + 1)
    (own2 : w2.ownsRow B 9 1 (.slice (some ⟨g', 0, none⟩) (g.length + 1) cap') (g.length + 1) (g.map Value.string ++ [Value.string nm])) (grow2 : wb.grownBy w2 v1.ownBlock)
    (lie2 : v1.ownBlock = some g' ∨ g' = w.heap.size + 1) :
    (∃ v1' v2', Cel (w2.setCell ⟨c1, 0, none⟩ (.slice (some ⟨g', 0, none⟩) (g.length + 1) cap')) c1 26 v1' ∧ Cel (w2.setCell ⟨c1, 0, none⟩ (.slice (some ⟨g', 0, none⟩) (g.length + 1) cap')) c2 26 v2' ∧
      OwnS (w2.setCell ⟨c1, 0, none⟩ (.slice (some ⟨g', 0, none⟩) (g.length + 1) cap')) B v1' (g ++ [nm]) ∧ OwnS (w2.setCell ⟨c1, 0, none⟩ (.slice (some ⟨g', 0, none⟩) (g.length + 1) cap')) B v2' c ∧
      (∀ g, v1'.ownBlock = some g → v2'.ownBlock ≠ some g)) ∧ B ≤ (w2.setCell ⟨c1, 0, none⟩ (.slice (some ⟨g', 0, none⟩) (g.length + 1) cap')).heap.size ∧
      Kept (fun k => k = c1 ∨ k = c2 ∨ B ≤ k) w (w2.setCell ⟨c1, 0, none⟩ (.slice (some ⟨g', 0, none⟩) (g.length + 1) cap')) := by
  have lt1 := World.ownsRow.lt o1
  have lt2 := World.ownsRow.lt o2
  have k2 : Kept (fun k => v1.ownBlock = some k) w w2 := (hw.more fun _ h => h.elim).grown grow2 fun k hk => .inl hk
  have b2 : B ≤ g' := by rcases lie2 with h | h; exact (lt1 g' h).1; omega
  have k3 : Kept (fun k => v1.ownBlock = some k ∨ k = c1) w (w2.setCell ⟨c1, 0, none⟩ (.slice (some ⟨g', 0, none⟩) (g.length + 1) cap')) := (k2.more fun _ h => .inl h).setCell (.inl (.inr rfl)) _
  have C1 : Cel w2 c1 26 v1 := h1.kept k2 fun h => by have := (lt1 c1 h).1; omega
  refine ⟨⟨_, v2, C1.set _, h2.kept k3 ?_, ?_, o2.kept k3 ?_, ?_⟩, ?_, k3.more ?_⟩
  · rintro (h | h); have := (lt1 c2 h).1; omega; omega
  · unfold OwnS
    have := ownsRow_setCell_below own2 (a := ⟨c1, 0, none⟩) (by exact hB1) (.slice (some ⟨g', 0, none⟩) (g.length + 1) cap')
    simpa using this
  · rintro k hk (h | h)
    · exact hdis k h hk
    · have := (lt2 k hk).1; omega
  · intro k hk hk2
    simp [Value.ownBlock] at hk; subst hk
    rcases lie2 with h | h
    · exact hdis g' h hk2
    · have := (lt2 g' hk2).2; omega
  · have := k3.size; omega
  · rintro k (h | h)
    · exact .inr (.inr (lt1 k h).1)
    · exact .inl h

set_option maxRecDepth 100000 in
set_option maxHeartbeats 1000000 in
theorem names1_any (c1 c2 B : Nat) (hne : c1 ≠ c2) (hB1 : c1 < B) (hB2 : c2 < B) (st : List ByteArray × List ByteArray) (p : PatT) (b o d : Nat) (S : Nat → Prop) (w : World)
    (hI : NamesI c1 c2 B st w) (hS : Safe S (fun k => k = c1 ∨ k = c2 ∨ B ≤ k) w.heap.size) (hp : PatAt w S b o p) (hl1 : st.1.length < 1000000000) (hl2 : st.2.length < 1000000000) :
    Calls Try.prog 35 #[.pointer (some ⟨b, o, none⟩), .int .i64 (d : Nat), .pointer (some ⟨c1, 0, none⟩), .pointer (some ⟨c2, 0, none⟩)] w
      (WalkPost (NamesI c1 c2 B) (fun k => k = c1 ∨ k = c2 ∨ B ≤ k) (namesStep st p) w) := by
  obtain ⟨g, c⟩ := st
  obtain ⟨k, t, n, nm, kids⟩ := p
  obtain ⟨⟨v1, v2, h1, h2, o1, o2, hdis⟩, hBw⟩ := hI
  unfold PatAt at hp
  obtain ⟨hSb, _, p0, p1, p2, p3, ka, cap, p4, hks⟩ := hp
  clear hks p1 p2 p4
  have q1 := h1.cell; have f1 := h1.free; have q2 := h2.cell; have f2 := h2.free
  obtain ⟨i0, hi, hz0, hz1, hz2⟩ := info_parts Try.infoS
  dsimp only at hl1 hl2 o1 o2
  have hbs := (hS b hSb).2
  by_cases hk1 : k = 21 ∨ k = 22 ∨ k = 23
  · have e1 : namesStep (g, c) (.mk k t n nm kids) = ((g ++ [nm], c), true) := by
      have : ¬ k = 24 := by omega
      simp [namesStep, hk1, this]
    rw [e1]; clear e1
    go_enter Try.func35, Try.ntmps35
    rcases hk1 with rfl | rfl | rfl
    all_goals
      go_wp2_with fail
    all_goals
      have O1 := Lib.hid o1
      have r1 : v1.ownBlock ≠ some c1 := fun h => by have := (World.ownsRow.lt o1 c1 h).1; omega
      have b63 : g.length + 1 ≤ maxLen := by unfold maxLen; omega
      have b47 : (g.length + 1) * 16 ≤ 140737488355328 := by omega
      have B63 := Lib.hid b63; have B47 := Lib.hid b47; have HBW := Lib.hid hBw; have H1 := Lib.hid h1; have R1 := Lib.hid r1
      have F : Hid (∀ (wb w2 : World) (g' cap' : Nat), Kept Nix w wb → wb.heap.size = w.heap.size + 1 → w2.ownsRow B 9 1 (.slice (some ⟨g', 0, none⟩) (g.length + 1) cap') (g.length + 1) (g.map Value.string ++ [Value.string nm]) → wb.grownBy w2 v1.ownBlock →
         (v1.ownBlock = some g' ∨ g' = w.heap.size + 1) → _) := fun wb w2 g' cap' hw hwz own2 grow2 lie2 => names1_fin hne hB1 hB2 h1 h2 o1 o2 hdis hBw hw hwz own2 grow2 lie2
      have a1 : ∀ x, (w.alloc x).cell? ⟨c1, 0, none⟩ = some v1 := fun x => (H1.out.alloc x).cell
      clear b63 b47 hBw h1 r1 o1 o2 h2 hdis hS
      go_region_law (refine step_append_lies _ rfl (.tmp 15) (.tmp 20) 26 rfl B 9 i0 (.string ⟨#[]⟩) 1 16 Try.underlying26 hi hz0 hz1 hz2 rfl (by decide) v1 g.length (g.map Value.string) (by simp [Act.eval]) (O1.out.alloc _) ⟨w.heap.size, 0, none⟩ 1 1 [.string nm] (by simp [Act.eval]) rfl (cell_one_new _ _ _) (by intro u hu; simp at hu; subst hu; rfl) (by decide) B63.out B47.out (by have := HBW.out; simp; omega) (w.heap.size + 1) (by simp) ?_; intro g' cap' w2 own2 grow2 lie2 lt2; have C1 := Cel.grown (c := c1) (v := v1) (t := 26) (by first | exact (H1.out.drew.alloc _) | exact (H1.out.alloc _).drew) grow2 R1.out; have qq := C1.cell; have ff := C1.free; have OWN := Lib.hid own2; have GROW := Lib.hid grow2; have LIE := Lib.hid lie2; clear C1 own2 grow2 lie2 lt2)
      all_goals
        go_wp2_with fail
        go_ret
        have R := F.out _ _ _ _ (by first | exact ((Kept.refl Nix w).alloc _).drew | exact ((Kept.refl Nix w).drew).alloc _) (by simp) OWN.out GROW.out LIE.out
        exact ⟨rfl, ⟨R.1, R.2.1⟩, R.2.2⟩
  · by_cases hk2 : k = 24
    · subst hk2
      have e1 : namesStep (g, c) (.mk 24 t n nm kids) = ((g, c ++ [nm]), true) := by simp [namesStep]
      rw [e1]; clear e1
      have hdis' : ∀ x, v2.ownBlock = some x → v1.ownBlock ≠ some x := fun x hx hy => hdis x hy hx
      clear hk1
      go_enter Try.func35, Try.ntmps35
      go_wp2_with fail
      have O1 := Lib.hid o2
      have r1 : v2.ownBlock ≠ some c2 := fun h => by have := (World.ownsRow.lt o2 c2 h).1; omega
      have b63 : c.length + 1 ≤ maxLen := by unfold maxLen; omega
      have b47 : (c.length + 1) * 16 ≤ 140737488355328 := by omega
      have B63 := Lib.hid b63; have B47 := Lib.hid b47; have HBW := Lib.hid hBw; have H1 := Lib.hid h2; have R1 := Lib.hid r1
      have F : Hid (∀ (wb w2 : World) (g' cap' : Nat), Kept Nix w wb → wb.heap.size = w.heap.size + 1 → w2.ownsRow B 9 1 (.slice (some ⟨g', 0, none⟩) (c.length + 1) cap') (c.length + 1) (c.map Value.string ++ [Value.string nm]) → wb.grownBy w2 v2.ownBlock →
         (v2.ownBlock = some g' ∨ g' = w.heap.size + 1) → _) := fun wb w2 g' cap' hw hwz own2 grow2 lie2 => names1_fin (Ne.symm hne) hB2 hB1 h2 h1 o2 o1 hdis' hBw hw hwz own2 grow2 lie2
      have a1 : ∀ x, (w.alloc x).cell? ⟨c2, 0, none⟩ = some v2 := fun x => (H1.out.alloc x).cell
      clear b63 b47 hBw h2 r1 o2 o1 h1 hdis hdis' hS
      go_region_law (refine step_append_lies _ rfl (.tmp 24) (.tmp 29) 26 rfl B 9 i0 (.string ⟨#[]⟩) 1 16 Try.underlying26 hi hz0 hz1 hz2 rfl (by decide) v2 c.length (c.map Value.string) (by simp [Act.eval]) (O1.out.alloc _) ⟨w.heap.size, 0, none⟩ 1 1 [.string nm] (by simp [Act.eval]) rfl (cell_one_new _ _ _) (by intro u hu; simp at hu; subst hu; rfl) (by decide) B63.out B47.out (by have := HBW.out; simp; omega) (w.heap.size + 1) (by simp) ?_; intro g' cap' w2 own2 grow2 lie2 lt2; have C1 := Cel.grown (c := c2) (v := v2) (t := 26) (by first | exact (H1.out.drew.alloc _) | exact (H1.out.alloc _).drew) grow2 R1.out; have qq := C1.cell; have ff := C1.free; have OWN := Lib.hid own2; have GROW := Lib.hid grow2; have LIE := Lib.hid lie2; clear C1 own2 grow2 lie2 lt2)
      all_goals
        go_wp2_with fail
        go_ret
        have R := F.out _ _ _ _ (by first | exact ((Kept.refl Nix w).alloc _).drew | exact ((Kept.refl Nix w).drew).alloc _) (by simp) OWN.out GROW.out LIE.out
        obtain ⟨⟨u1, u2, r1, r2, r3, r4, r5⟩, r6, r7⟩ := R
        exact ⟨rfl, ⟨⟨u2, u1, r2, r1, r4, r3, fun x hx hy => r5 x hy hx⟩, r6⟩, r7.more fun k hk => by rcases hk with h | h | h <;> simp [h]⟩
    · have e1 : namesStep (g, c) (.mk k t n nm kids) = ((g, c), true) := by
        simp [namesStep, hk1, hk2]
      rw [e1]; clear e1
      have z1 : (k == 21) = false := by simp; omega
      have z2 : (k == 22) = false := by simp; omega
      have z3 : (k == 23) = false := by simp; omega
      have z4 : (k == 24) = false := by simp; omega
      have fin : Hid (NamesI c1 c2 B (g, c) w) := ⟨⟨v1, v2, h1, h2, o1, o2, hdis⟩, hBw⟩
      clear hk1 hk2 h1 h2 o1 o2 hdis hbs hS
      go_enter Try.func35, Try.ntmps35
      go_wp2_with fail
      go_ret
      exact ⟨rfl, fin.out, Kept.refl _ _⟩
end Go.Proofs.Ytdkpdomggbiolaa
