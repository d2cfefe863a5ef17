/- The reader of patterns: a list of patterns that grows (laws for cat and alt). -/
import Derived.Test.YtdnglicgmlldlaaDoorRd11
import Derived.Test.YtdnglicgmlldlaaDoorRef4c
namespace Go.Proofs.YtdnglicgmlldlaaDoor
open Go.RowKit

theorem Row5.pats {w : World} {S : Nat → Prop} : ∀ {l : List PatT} {cs : List Value}, Row5 w S cs l → ∀ (g o : Nat), (∀ j u, cs[j]? = some u → w.cell? ⟨g, o + j, none⟩ = some u) → PatsAt w (fun b => S b ∨ b = g) (some ⟨g, o, none⟩) l
  | [], cs, h, g, o, hc => by unfold PatsAt; trivial
  | p :: ps, cs, h, g, o, hc => by
    rw [Row5] at h; obtain ⟨c, r, rfl, ⟨ka, cap, rfl, hz, hk⟩, h2⟩ := h
    unfold PatsAt
    refine ⟨g, o, rfl, ?_, h2.pats g (o + 5) fun i u hi => ?_⟩
    · obtain ⟨k, t, n, nm, kids⟩ := p
      unfold PatAt
      exact ⟨.inr rfl, hz, hc 0 _ rfl, hc 1 _ rfl, hc 2 _ rfl, hc 3 _ rfl, ka, cap, hc 4 _ rfl, PatsAt.same (fun _ _ => rfl) (fun b h => .inl h) _ _ hk⟩
    · rw [show o + 5 + i = o + (5 + i) by omega]; exact hc _ _ (by rw [List.getElem?_append_right (by simp)]; simpa using hi)

theorem Row5.more {w : World} {S S' : Nat → Prop} : ∀ {l : List PatT} {cs : List Value}, Row5 w S cs l → (∀ b, S b → S' b) → Row5 w S' cs l
  | [], _, h, _ => h
  | p :: ps, cs, h, hs => by
    rw [Row5] at h ⊢; obtain ⟨c, r, rfl, ⟨ka, cap, rfl, hz, hk⟩, h2⟩ := h
    exact ⟨_, r, rfl, ⟨ka, cap, rfl, hz, PatsAt.same (fun _ _ => rfl) hs _ _ hk⟩, h2.more hs⟩

structure ListI (N W : Nat) (s : ByteArray) (d : Nat) (w : World) (l : List PatT) (k : Nat) (v : Value) (wx : World) : Prop where
  rdr : Rdr N W s k d wx
  own : ∃ (cs : List Value) (S : Nat → Prop), Win wx (w.heap.size + 1) 24 5 v l.length cs ∧ Row5 wx S cs l ∧ ∀ b, S b → w.heap.size < b ∧ b < wx.heap.size ∧ v.ownBlock ≠ some b
  zero : Zero5 w.heap.size wx
  kept : Kept (· = N) w wx
  len : l.length ≤ k
theorem ListI.next {N W : Nat} {s : ByteArray} {d : Nat} {w wx w' : World} {l : List PatT} {k k' : Nat} {v : Value} (h : ListI N W s d w l k v wx) (hN : N < w.heap.size) (hk : Kept (· = N) wx w') (hr : Rdr N W s k' d w') (hkk : k ≤ k') : ListI N W s d w l k' v w' := by
  obtain ⟨cs, S, h1, h2, h3⟩ := h.own
  refine ⟨hr, ⟨cs, S, h1.kept hk (fun b hb => ?_), h2.kept hk (fun b hb => ⟨(h3 b hb).2.1, ?_⟩), fun b hb => ⟨(h3 b hb).1, Nat.lt_of_lt_of_le (h3 b hb).2.1 hk.size, (h3 b hb).2.2⟩⟩, Five.kept h.zero hk (by omega), h.kept.trans hk, Nat.le_trans h.len hkk⟩
  · have := (h1.lt b hb).1; omega
  · have := (h3 b hb).1; omega
def fiveL (p : PatT) (ka : Option Addr) (cap : Nat) : List Value := [.int .i64 p.kind, .string p.text, .int .i64 p.n, .string p.name, .slice ka p.kids.length cap]
theorem list_start {N W : Nat} {s : ByteArray} {d : Nat} {w w1 w2 : World} {p : PatT} {k : Nat} {ka : Option Addr} {cap : Nat} {S : Nat → Prop} (hN : N < w.heap.size) (h1 : w.heap.size < w1.heap.size) (h12 : w1.heap.size ≤ w2.heap.size) (R : Rdr N W s k d w2) (Z : Zero5 w.heap.size w2) (K : Kept (· = N) w w2)
    (hz : p.text.size < 1000000000 ∧ p.name.size < 1000000000 ∧ p.kids.length < 1000000000) (hS : ∀ b, S b → w1.heap.size ≤ b ∧ b < w2.heap.size) (hk : PatsAt w2 S ka p.kids) (hk1 : 1 ≤ k) :
    ListI N W s d w [p] k (.slice (some ⟨w2.heap.size, 0, none⟩) 1 1) (w2.alloc (.cells #[.int .i64 p.kind, .string p.text, .int .i64 p.n, .string p.name, .slice ka p.kids.length cap] 24)) := by
  have kA : Kept Nix w2 (w2.alloc (.cells #[.int .i64 p.kind, .string p.text, .int .i64 p.n, .string p.name, .slice ka p.kids.length cap] 24)) := (Kept.refl _ _).alloc _
  refine ⟨R.kept kA (fun h => h) (fun h => h), ⟨fiveL p ka cap, S, ⟨rfl, .inr ⟨w2.heap.size, 0, 1, _, rfl, by omega, heap_alloc_new w2 _, Nat.le_refl _, by decide, by simp, by simp [fiveL]⟩⟩, ?_, fun b hb => ⟨by have := hS b hb; omega, Nat.lt_of_lt_of_le (hS b hb).2 kA.size, ?_⟩⟩, Five.kept Z kA (fun h => h), K.quiet kA, hk1⟩
  · rw [Row5]; exact ⟨_, [], (List.append_nil _).symm, ⟨ka, cap, rfl, hz, hk.kept kA (fun b hb => ⟨(hS b hb).2, fun h => h⟩)⟩, rfl⟩
  · have := hS b hb; simp [Value.ownBlock]; omega
/-- One more behind the list: w1: the list as it was; w2: behind the callee; w3: behind append. -/
theorem list_more {N W : Nat} {s : ByteArray} {d : Nat} {w w1 w2 w3 : World} {l : List PatT} {q : PatT} {k k2 : Nat} {v : Value} {a' : Option Addr} {c' : Nat} {ka : Option Addr} {cap : Nat} {cs : List Value} {S S2 : Nat → Prop} (hN : N < w.heap.size) (hW : W < w.heap.size)
    (I : ListI N W s d w l k v w1) (h1 : Win w1 (w.heap.size + 1) 24 5 v l.length cs) (h2 : Row5 w1 S cs l) (h3 : ∀ b, S b → w.heap.size < b ∧ b < w1.heap.size ∧ v.ownBlock ≠ some b)
    (hk : Kept (· = N) w1 w2) (R : Rdr N W s k2 d w2) (hkk : k < k2) (hz : q.text.size < 1000000000 ∧ q.name.size < 1000000000 ∧ q.kids.length < 1000000000) (hS2 : ∀ b, S2 b → w1.heap.size ≤ b ∧ b < w2.heap.size) (hq : PatsAt w2 S2 ka q.kids)
    (hw : Win w3 (w.heap.size + 1) 24 5 (.slice a' (l.length + 1) c') (l.length + 1) (cs ++ [.int .i64 q.kind, .string q.text, .int .i64 q.n, .string q.name, .slice ka q.kids.length cap])) (hg : (w2.alloc (.cells #[.int .i64 q.kind, .string q.text, .int .i64 q.n, .string q.name, .slice ka q.kids.length cap] 24)).grownBy w3 v.ownBlock)
    (ho : (Value.slice a' (l.length + 1) c').ownBlock = v.ownBlock ∨ (Value.slice a' (l.length + 1) c').ownBlock = some (w2.heap.size + 1)) :
    ListI N W s d w (l ++ [q]) k2 (.slice a' (l ++ [q]).length c') w3 := by
  have kA : Kept Nix w2 (w2.alloc (.cells #[.int .i64 q.kind, .string q.text, .int .i64 q.n, .string q.name, .slice ka q.kids.length cap] 24)) := (Kept.refl _ _).alloc _
  have hlow : ∀ b, v.ownBlock = some b → w.heap.size + 1 ≤ b ∧ b < w1.heap.size := h1.lt
  have hsz12 := hk.size
  have K23 : Kept (fun b => v.ownBlock = some b) w2 w3 := (kA.more fun _ h => h.elim).grown hg fun b hb => .inl hb
  have e1 : (l ++ [q]).length = l.length + 1 := by simp
  rw [e1]
  refine ⟨R.kept K23 (fun h => by have := hlow N h; omega) (fun h => by have := hlow W h; omega), ⟨_, fun b => S b ∨ S2 b, by rw [e1]; exact hw, ?_, fun b hb => ?_⟩, ?_, (I.kept.trans hk).step K23 (fun y hy => .inr (by have := hlow y hy; omega)), by rw [e1]; have := I.len; omega⟩
  · refine Row5.append ?_ ?_
    · exact ((h2.kept hk (fun b hb => ⟨(h3 b hb).2.1, by have := (h3 b hb).1; omega⟩)).kept K23 (fun b hb => ⟨by have := (h3 b hb).2.1; omega, (h3 b hb).2.2⟩)).more fun b h => .inl h
    · rw [Row5]; refine ⟨_, [], (List.append_nil _).symm, ⟨ka, cap, rfl, hz, ?_⟩, rfl⟩
      exact PatsAt.to hq K23 (fun b hb => ⟨(hS2 b hb).2, fun h => by have := hlow b h; have := (hS2 b hb).1; omega⟩) (fun b h => .inr h)
  · have h23 := K23.size
    rcases hb with hb | hb
    · have := h3 b hb
      refine ⟨this.1, by omega, ?_⟩
      rcases ho with h | h
      · rw [h]; exact this.2.2
      · rw [h]; simp; omega
    · have := hS2 b hb
      refine ⟨by have := I.zero.lt; omega, by omega, ?_⟩
      rcases ho with h | h
      · rw [h]; intro h'; have := hlow b h'; omega
      · rw [h]; simp; omega
  · exact Five.kept (Five.kept I.zero hk (by omega)) K23 (fun h => by have := hlow _ h; omega)
/-- The list as one pattern: its only one, or all of them under a kind. -/
theorem ListI.pats {N W : Nat} {s : ByteArray} {d : Nat} {w wx : World} {l : List PatT} {k : Nat} {v : Value} (h : ListI N W s d w l k v wx) (h0 : 0 < l.length) :
    ∃ g o c S, v = .slice (some ⟨g, o, none⟩) l.length c ∧ PatsAt wx S (some ⟨g, o, none⟩) l ∧ ∀ b, S b → w.heap.size < b ∧ b < wx.heap.size := by
  obtain ⟨cs, S, h1, h2, h3⟩ := h.own
  rcases h1.cells with ⟨_, hn⟩ | ⟨g, o, c, hv, hg1, hg2, _, _, hc⟩
  · omega
  · refine ⟨g, o, c, fun b => S b ∨ b = g, hv, h2.pats g o (fun j u hu => (hc j u hu).1), fun b hb => ?_⟩
    rcases hb with hb | rfl
    · exact ⟨(h3 b hb).1, (h3 b hb).2.1⟩
    · omega
theorem PatsAt.one {w : World} {S : Nat → Prop} {g o : Nat} {p : PatT} (h : PatsAt w S (some ⟨g, o, none⟩) [p]) : PatAt w S g o p := by
  unfold PatsAt at h; obtain ⟨b, o', e, h, _⟩ := h
  simp only [Option.some.injEq, Addr.mk.injEq, and_true] at e
  obtain ⟨rfl, rfl⟩ := e; exact h
end Go.Proofs.YtdnglicgmlldlaaDoor
